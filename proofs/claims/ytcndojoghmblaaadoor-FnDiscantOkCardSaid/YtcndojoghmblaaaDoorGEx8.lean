-- Made by this session's gprint.py out of the translation. Not trusted: Lean checks it.
import Derived.Test.YtcndojoghmblaaaDoorGEx0
import Derived.Test.YtcndojoghmblaaaDoorGEx6
import Derived.Test.YtcndojoghmblaaaDoorGEx7
namespace Go.Proofs.YtcndojoghmblaaaDoor.GE
open Go.RowKit Go.Proofs.YtcndojoghmblaaaDoorW.PrintWords Go.Proofs.YtcndojoghmblaaaDoorW.PrintLast Go.Proofs.YtcndojoghmblaaaDoorW.PrintMore
attribute [local go_sem] max2_int min2_int max_two min_two max_three min_three max_four min_four   -- for this text's walks alone
set_option linter.unusedVariables false
set_option linter.unusedSimpArgs false

/-! ### spec_l1Height: function 133 -/
def spec_l1Height.f (a0_0 : Int) (a0_1 : Bool) : Option (Int) := (some (([0, 2, 4, 5, 7, 9, 10] : List Int) : List Int)).bind fun y253 => ((spec_l1Letter.f a0_0).bind fun t256 => (if 0 ≤ t256 then (if t256 < (y253.length : Int) then (if a0_1 = true then (some (wrap64 ((wrap64 ((wrap64 (12 * (wrap64 (Int.tdiv a0_0 7)))) + (rd y253 t256))) - 1))) else (some (wrap64 ((wrap64 (12 * (wrap64 (Int.tdiv a0_0 7)))) + (rd y253 t256))))) else (none)) else (none)))
def spec_l1Height.T1 : Bool × List (List Nat × List Nat) := (true, [([], []), ([0], [0]), ([1], [1]), ([2], [2]), ([], []), ([], []), ([5], [5]), ([6], [6]), ([4, 7], [4, 7]), ([8], [8]), ([3, 9], [3, 9]), ([10, 7, 0, 1, 2, 3, 4, 5, 6, 7, 8, 9, 10], [10])])
def spec_l1Height.B1 : List Nat := [0, 1, 3, 7, 0, 0, 32, 96, 240, 496, 1023, 2047]
theorem spec_l1Height.tab1 : rtab .any (opsOf Tryd.f133 1) = spec_l1Height.T1 := by kernel_rfl
theorem spec_l1Height.bits1 : waitsOk spec_l1Height.T1.2 spec_l1Height.B1 = true := by kernel_rfl
set_option maxHeartbeats 8000000 in
set_option maxRecDepth 100000 in
theorem spec_l1Height.calls (a0_0 : Int) (a0_1 : Bool) (r : Int) (w : World) (h : spec_l1Height.f a0_0 a0_1 = some r) :
  Calls Tryd.prog 133 #[.agg #[.int .i64 a0_0, .bool a0_1]] w fun e w' => e = .returned (.int .i64 r) ∧ Below w.heap.size w w' := by
 have hu30 := Tryd.underlying30
 have HB := am (Below.refl w.heap.size w)
 have H : ((some (([0, 2, 4, 5, 7, 9, 10] : List Int) : List Int)).bind fun y253 => ((spec_l1Letter.f a0_0).bind fun t256 => (if 0 ≤ t256 then (if t256 < (y253.length : Int) then (if a0_1 = true then (some (wrap64 ((wrap64 ((wrap64 (12 * (wrap64 (Int.tdiv a0_0 7)))) + (rd y253 t256))) - 1))) else (some (wrap64 ((wrap64 (12 * (wrap64 (Int.tdiv a0_0 7)))) + (rd y253 t256))))) else (none)) else (none)))) = some r := h
 clear h
 obtain ⟨y253, hy253⟩ : ∃ y_ : List Int, y_ = (([0, 2, 4, 5, 7, 9, 10] : List Int)) := ⟨_, rfl⟩
 replace H : ((spec_l1Letter.f a0_0).bind fun t256 => (if 0 ≤ t256 then (if t256 < (y253.length : Int) then (if a0_1 = true then (some (wrap64 ((wrap64 ((wrap64 (12 * (wrap64 (Int.tdiv a0_0 7)))) + (rd y253 t256))) - 1))) else (some (wrap64 ((wrap64 (12 * (wrap64 (Int.tdiv a0_0 7)))) + (rd y253 t256))))) else (none)) else (none))) = some r := by first | (rw [hy253]; with_reducible exact H) | (have H2_ := (Option.bind_some _ _).symm.trans H; rw [hy253]; with_reducible exact H2_) | (have H2_ := (Option.bind_some _ _).symm.trans H; with_reducible exact H2_) | with_reducible exact H | (rw [hy253]; exact H) | exact H
 have Ny253 := am hy253
 clear hy253
 replace H := Option.bind_eq_some_iff.mp H
 obtain ⟨t256, A20, H⟩ := H
 replace H : (if 0 ≤ t256 then (if t256 < (y253.length : Int) then (if a0_1 = true then (some (wrap64 ((wrap64 ((wrap64 (12 * (wrap64 (Int.tdiv a0_0 7)))) + (rd y253 t256))) - 1))) else (some (wrap64 ((wrap64 (12 * (wrap64 (Int.tdiv a0_0 7)))) + (rd y253 t256))))) else (none)) else (none)) = some r := H
 have A2 := am A20
 clear A20
 by_cases c3 : 0 ≤ t256
 ·rw [if_pos c3] at H
  have c3b0 : decide (0 ≤ t256) = true := decide_eq_true c3
  clear c3
  by_cases c4 : t256 < (y253.length : Int)
  ·rw [if_pos c4] at H
   have c4b0 : decide (t256 < (y253.length : Int)) = true := decide_eq_true c4
   clear c4
   by_cases c5 : a0_1 = true
   ·subst c5
    have H1 : (some (wrap64 ((wrap64 ((wrap64 (12 * (wrap64 (Int.tdiv a0_0 7)))) + (rd y253 t256))) - 1))) = some r := by rw [if_pos rfl] at H; exact H
    clear H
    have H := H1
    clear H1
    obtain rfl := Option.some.inj H
    go_enter Tryd.func133, Tryd.ntmps133
    try go_wp2_with (first | ((with_reducible refine gate_dst (N := 1) rfl ?_); refine box_event ?hg (N := 1) ?hd (cs := #[.int .i64 a0_0, .bool true]) (t := 30) ?hr ?_; (case hd => rfl); (case hg => rfl); (case hr => first | (go_simp; done) | (go_simp; rfl)); intro gb252 hg w6 hbox hb; have n0_ := am (below_step (bu HB.out) hb); have n1_ := am (hbox); have n2_ := am ((by rw [hg]; exact (below_size (bu HB.out)) : w.heap.size ≤ gb252)); have n3_ := am ((by rw [hg]; exact (below_size (bu HB.out)) : w.heap.size ≤ gb252)); clear HB; have HB := n0_; have BK252 := n1_; have GW252 := n2_; have GE252 := n3_; clear n0_ n1_ n2_ n3_; clear hb hbox hg))
    have pi257 : (0 ≤ (t256 : Int)) = True := eq_true (od)
    have qi257 : (t256 < (y253.length : Int)) = True := eq_true (od)
    have n0_ := am (blk_drew BK252.out)
    have n1_ := am (below_drew1 HB.out)
    clear BK252
    clear HB
    have BK252 := n0_
    have HB := n1_
    clear n0_ n1_
    refine start_ (n := 12) (S := fun w' => w'.cell? ⟨gb252, 0, none⟩ = some (.int .i64 a0_0) ∧ w'.cell? ⟨gb252, 1, none⟩ = some (.bool true)) (ds := []) #[F,F,F,F,F,F,F,F,F,F,F,F] (by kernel_rfl) rfl rfl ⟨(blk_cell BK252.out 0).trans rfl, (blk_cell BK252.out 1).trans rfl⟩ (fun hHeld => ?_); refine with_tabW spec_l1Height.tab1 spec_l1Height.bits1 (fun HT_ HW_ => ?_)
    generalize w6.drew = w7 at BK252 HB hHeld ⊢
    refine pz 0 (some 4) #[T,F,F,F,F,F,F,F,F,F,F,F] (any_of HT_.out (by kernel_rfl)) (h := ?_)
    refine pz 5 (some 9) #[T,F,F,F,F,T,F,F,F,F,F,F] (any_of HT_.out (by kernel_rfl)) (h := ?_)
    refine tz hHeld 1 (some 5) #[T,T,F,F,F,T,F,F,F,F,F,F] (take_ofW HT_.out HW_.out (by kernel_rfl)) (h := ?_)
    refine pz 2 (some 6) #[T,T,T,F,F,T,F,F,F,F,F,F] (any_of HT_.out (by kernel_rfl)) (h := ?_)
    refine pz 3 (some 7) #[T,T,T,T,F,T,F,F,F,F,F,F] (any_of HT_.out (by kernel_rfl)) (h := ?_)
    refine tz hHeld 6 (some 10) #[T,T,T,T,F,T,T,F,F,F,F,F] (take_ofW HT_.out HW_.out (by kernel_rfl)) (h := ?_)
    refine join_ (σ := Value × Addr) 4 #[T,T,T,T,T,T,T,T,F,F,F,F] (fun s_ => [(8, s_.1), (11, .int .i64 t256)]) (fun s_ w' => (w'.cell? ⟨gb252, 0, none⟩ = some (.int .i64 a0_0) ∧ w'.cell? ⟨gb252, 1, none⟩ = some (.bool true)) ∧ (Kd.R (Kd.int .i64) 3 w' w.heap.size (fun _ => True) s_.1 y253) ∧ (∃ c_, (s_.1 : Value) = .slice (some s_.2) y253.length c_) ∧ (w'.heap[gb252]? = some (.cells #[.int .i64 a0_0, .bool true] 30 (0, 0))) ∧ (Below w.heap.size w w')) ?_ ?_
    rotate_left
    ·intro hCont
     refine two_ (i := 4) (j := 7) (Ni := some 8) (Nj := some 11) #[T,T,T,T,T,T,T,F,F,F,F,F] #[T,T,T,T,F,T,T,T,F,F,F,F] rfl rfl rfl rfl (two_of HT_.out (by kernel_rfl)) (by decide) (by decide) (fun K hK => ?_) (fun K hK => ?_)
     ·skip
      refine Kd.R_lit_step (Kd.int .i64) _ 3 ?hg (N := 8) ?hd (xs := ([0, 2, 4, 5, 7, 9, 10] : List Int)) (inner := [.int .i64 0, .int .i64 2, .int .i64 4, .int .i64 5, .int .i64 7, .int .i64 9, .int .i64 10]) (ok := fun _ => True) (okp := fun _ => True) ?hr ?hp (fun _ hk => hk) trivial (Below.refl _ _) (Nat.le_refl _) (by simp) ?_; (case hd => rfl); (case hg => rfl); (case hr => first | (go_simp; done) | (go_simp; rfl)); (case hp => exact (Reps.one (show Kd.M (Kd.int .i64) _ _ _ 0 [.int .i64 0] from rfl) (Reps.one (show Kd.M (Kd.int .i64) _ _ _ 2 [.int .i64 2] from rfl) (Reps.one (show Kd.M (Kd.int .i64) _ _ _ 4 [.int .i64 4] from rfl) (Reps.one (show Kd.M (Kd.int .i64) _ _ _ 5 [.int .i64 5] from rfl) (Reps.one (show Kd.M (Kd.int .i64) _ _ _ 7 [.int .i64 7] from rfl) (Reps.one (show Kd.M (Kd.int .i64) _ _ _ 9 [.int .i64 9] from rfl) (Reps.one (show Kd.M (Kd.int .i64) _ _ _ 10 [.int .i64 10] from rfl) (Reps.none _ _)))))))))
      intro v254 w8 ho9 hb hg_ hnew_
      clear hg_ hnew_
      (first | rw [← Ny253.out] at ho9 | (simp only [Int.reduceToNat] at ho9; rw [← Ny253.out] at ho9))
      have n0_ := am (Kd.R_lower ho9 (below_size (bu HB.out)))
      have n1_ := am (blk_below (g := gb252) (o := .cells #[.int .i64 a0_0, .bool true] 30 (0, 0)) (gu BK252.out) hb)
      have n2_ := am (below_step (bu HB.out) hb)
      clear BK252
      clear HB
      have HO255 := n0_
      have BK252 := n1_
      have HB := n2_
      clear n0_ n1_ n2_
      clear hb ho9
      obtain ⟨Ao10, co10, eo10⟩ := Kd.R_slice HO255.out
      subst eo10
      obtain ⟨ado10, fo10, _⟩ := Kd.at_int (Kd.R_reads' HO255.out).2.2 0 (by decide) (by rw [Ny253.out]; simp)
      cases fo10
      refine hK.out _ _ ⟨(blk_cell BK252.out 0).trans rfl, (blk_cell BK252.out 1).trans rfl⟩ (fun hHeld => ?_)
      clear hK K
      refine norm_ (a' := ?_) ?_ ?_
      rotate_left
      ·show Act.put _ (some 8) _ = _
       simp only [Act.put, sA, sZ, sS, i64_w, i32_w]
       rfl
      refine one_ (i := 7) (N := some 11) #[T,T,T,T,T,T,T,T,F,F,F,F] rfl rfl (one_of HT_.out (by kernel_rfl)) (by decide) (fun K hK => ?_)
      refine goes_ Tryd.func129 (by kernel_rfl) rfl #[.int .i64 a0_0] (by rfl) rfl rfl (by (try simp only [List.map_toArray, List.map_cons, List.map_nil]); first | done | rfl | (simp only [List.length_drop, List.length_take]; rfl)) ?_
      with_reducible refine (spec_l1Letter.calls a0_0 t256 _ A2.out).mono ?_
      rintro e w' ⟨rfl, ⟨nd, rfl⟩⟩
      refine ⟨_, rfl, ?_⟩
      refine hK.out _ _ ⟨(blk_cell BK252.out 0).trans rfl, (blk_cell BK252.out 1).trans rfl⟩ (fun hHeld => ?_)
      clear hK K
      refine norm_ (a' := ?_) ?_ ?_
      rotate_left
      ·show Act.put _ (some 11) _ = _
       simp only [Act.put, sA, sZ, sS, i64_w, i32_w]
       rfl
      exact norm_ (by simp only [putAll, Act.put, sA, sZ, sS]) (hCont (.slice (some ado10) y253.length co10, ado10) _ ⟨hHeld, (ru HO255.out), ⟨_, rfl⟩, (gu BK252.out), (bu HB.out)⟩)
     ·skip
      refine goes_ Tryd.func129 (by kernel_rfl) rfl #[.int .i64 a0_0] (by rfl) rfl rfl (by (try simp only [List.map_toArray, List.map_cons, List.map_nil]); first | done | rfl | (simp only [List.length_drop, List.length_take]; rfl)) ?_
      with_reducible refine (spec_l1Letter.calls a0_0 t256 _ A2.out).mono ?_
      rintro e w' ⟨rfl, ⟨nd, rfl⟩⟩
      refine ⟨_, rfl, ?_⟩
      refine hK.out _ _ ⟨(blk_cell BK252.out 0).trans rfl, (blk_cell BK252.out 1).trans rfl⟩ (fun hHeld => ?_)
      clear hK K
      refine norm_ (a' := ?_) ?_ ?_
      rotate_left
      ·show Act.put _ (some 11) _ = _
       simp only [Act.put, sA, sZ, sS, i64_w, i32_w]
       rfl
      refine one_ (i := 4) (N := some 8) #[T,T,T,T,T,T,T,T,F,F,F,F] rfl rfl (one_of HT_.out (by kernel_rfl)) (by decide) (fun K hK => ?_)
      refine Kd.R_lit_step (Kd.int .i64) _ 3 ?hg (N := 8) ?hd (xs := ([0, 2, 4, 5, 7, 9, 10] : List Int)) (inner := [.int .i64 0, .int .i64 2, .int .i64 4, .int .i64 5, .int .i64 7, .int .i64 9, .int .i64 10]) (ok := fun _ => True) (okp := fun _ => True) ?hr ?hp (fun _ hk => hk) trivial (Below.refl _ _) (Nat.le_refl _) (by simp) ?_; (case hd => rfl); (case hg => rfl); (case hr => first | (go_simp; done) | (go_simp; rfl)); (case hp => exact (Reps.one (show Kd.M (Kd.int .i64) _ _ _ 0 [.int .i64 0] from rfl) (Reps.one (show Kd.M (Kd.int .i64) _ _ _ 2 [.int .i64 2] from rfl) (Reps.one (show Kd.M (Kd.int .i64) _ _ _ 4 [.int .i64 4] from rfl) (Reps.one (show Kd.M (Kd.int .i64) _ _ _ 5 [.int .i64 5] from rfl) (Reps.one (show Kd.M (Kd.int .i64) _ _ _ 7 [.int .i64 7] from rfl) (Reps.one (show Kd.M (Kd.int .i64) _ _ _ 9 [.int .i64 9] from rfl) (Reps.one (show Kd.M (Kd.int .i64) _ _ _ 10 [.int .i64 10] from rfl) (Reps.none _ _)))))))))
      intro v254 w8 ho9 hb hg_ hnew_
      clear hg_ hnew_
      (first | rw [← Ny253.out] at ho9 | (simp only [Int.reduceToNat] at ho9; rw [← Ny253.out] at ho9))
      have n0_ := am (Kd.R_lower ho9 (below_size (bu HB.out)))
      have n1_ := am (blk_below (g := gb252) (o := .cells #[.int .i64 a0_0, .bool true] 30 (0, 0)) (gu BK252.out) hb)
      have n2_ := am (below_step (bu HB.out) hb)
      clear BK252
      clear HB
      have HO255 := n0_
      have BK252 := n1_
      have HB := n2_
      clear n0_ n1_ n2_
      clear hb ho9
      obtain ⟨Ao10, co10, eo10⟩ := Kd.R_slice HO255.out
      subst eo10
      obtain ⟨ado10, fo10, _⟩ := Kd.at_int (Kd.R_reads' HO255.out).2.2 0 (by decide) (by rw [Ny253.out]; simp)
      cases fo10
      refine hK.out _ _ ⟨(blk_cell BK252.out 0).trans rfl, (blk_cell BK252.out 1).trans rfl⟩ (fun hHeld => ?_)
      clear hK K
      refine norm_ (a' := ?_) ?_ ?_
      rotate_left
      ·show Act.put _ (some 8) _ = _
       simp only [Act.put, sA, sZ, sS, i64_w, i32_w]
       rfl
      exact norm_ (by simp only [putAll, Act.put, sA, sZ, sS]) (hCont (.slice (some ado10) y253.length co10, ado10) _ ⟨hHeld, (ru HO255.out), ⟨_, rfl⟩, (gu BK252.out), (bu HB.out)⟩)
    rintro ⟨v254, adz_v254⟩ w11 ⟨hS_, h0_, h1_, h2_, h3_⟩
    have n0_ : Aside0 (Kd.R (Kd.int .i64) 3 w11 w.heap.size (fun _ => True) v254 y253) := ⟨h0_⟩
    have n1_ : Aside0 (∃ c_, (v254 : Value) = .slice (some adz_v254) y253.length c_) := ⟨h1_⟩
    have n2_ : Aside0 (w11.heap[gb252]? = some (.cells #[.int .i64 a0_0, .bool true] 30 (0, 0))) := ⟨h2_⟩
    have n3_ : Aside0 (Below w.heap.size w w11) := ⟨h3_⟩
    clear BK252
    clear HB
    clear h0_ h1_ h2_ h3_
    have HO255 := n0_
    have HA_HO255 := n1_
    have BK252 := n2_
    have HB := n3_
    clear n0_ n1_ n2_ n3_
    have hHeld : w11.cell? ⟨gb252, 0, none⟩ = some (.int .i64 a0_0) ∧ w11.cell? ⟨gb252, 1, none⟩ = some (.bool true) := hS_
    obtain ⟨co12, eo12⟩ := HA_HO255.out
    clear HA_HO255
    subst eo12
    refine norm_ (a' := ?_) ?_ ?_
    rotate_left
    ·simp only [putAll, Act.put, sA, sZ, sS]
     rfl
    refine pz 8 (some 12) #[T,T,T,T,T,T,T,T,T,F,F,F] (any_of HT_.out (by kernel_rfl)) (h := ?_)
    refine one_ (i := 9) (N := some 13) #[T,T,T,T,T,T,T,T,T,T,F,F] rfl rfl (one_of HT_.out (by kernel_rfl)) (by decide) (fun K hK => ?_)
    (have p257 : 0 ≤ (t256 : Int) := od; have q257 : t256 < (y253.length : Int) := od; obtain ⟨ad257, e257, hx257_0⟩ := Kd.at_int (Kd.R_reads' HO255.out).2.2 t256 p257 q257; obtain rfl : adz_v254 = ad257 := (by injection e257))
    refine value_ (w1 := ?_) (v := ?_) (by rfl) rfl ?_ ?_
    rotate_left 2
    ·go_simp
     constructor
     ·rfl
     ·rfl
    clear hx257_0
    refine hK.out _ _ ⟨(blk_cell BK252.out 0).trans rfl, (blk_cell BK252.out 1).trans rfl⟩ (fun hHeld => ?_)
    clear hK K
    refine norm_ (a' := ?_) ?_ ?_
    rotate_left
    ·show Act.put _ (some 13) _ = _
     simp only [Act.put, sA, sZ, sS, i64_w, i32_w]
     rfl
    refine pz 10 (some 14) #[T,T,T,T,T,T,T,T,T,T,T,F] (any_of HT_.out (by kernel_rfl)) (h := ?_)
    refine pz 11 (some 3) #[T,T,T,T,T,T,T,T,T,T,T,T] (any_of HT_.out (by kernel_rfl)) (h := ?_)
    refine done_ (done_of HT_.out (by kernel_rfl)) ?_
    have hcz13_0 : w11.cell? ⟨gb252, 0, none⟩ = some (.int .i64 a0_0) := (blk_cell BK252.out 0).trans rfl
    have hcz13_1 : w11.cell? ⟨gb252, 1, none⟩ = some (.bool true) := (blk_cell BK252.out 1).trans rfl
    have hfz13_0 := blk_frozen BK252.out 0
    have hfz13_1 := blk_frozen BK252.out 1
    try go_wp2
    go_ret
    exact ⟨by first | rfl | (simp [errW_none, errW_some] <;> rfl) | (simp [*, errW_none, errW_some] <;> rfl), bu HB.out⟩
   ·replace c5 := Bool.eq_false_iff.mpr c5
    subst c5
    have H1 : (some (wrap64 ((wrap64 (12 * (wrap64 (Int.tdiv a0_0 7)))) + (rd y253 t256)))) = some r := by rw [if_neg (show ¬ (false = true) by decide)] at H; exact H
    clear H
    have H := H1
    clear H1
    obtain rfl := Option.some.inj H
    go_enter Tryd.func133, Tryd.ntmps133
    try go_wp2_with (first | ((with_reducible refine gate_dst (N := 1) rfl ?_); refine box_event ?hg (N := 1) ?hd (cs := #[.int .i64 a0_0, .bool false]) (t := 30) ?hr ?_; (case hd => rfl); (case hg => rfl); (case hr => first | (go_simp; done) | (go_simp; rfl)); intro gb252 hg w14 hbox hb; have n0_ := am (below_step (bu HB.out) hb); have n1_ := am (hbox); have n2_ := am ((by rw [hg]; exact (below_size (bu HB.out)) : w.heap.size ≤ gb252)); have n3_ := am ((by rw [hg]; exact (below_size (bu HB.out)) : w.heap.size ≤ gb252)); clear HB; have HB := n0_; have BK252 := n1_; have GW252 := n2_; have GE252 := n3_; clear n0_ n1_ n2_ n3_; clear hb hbox hg))
    have pi257 : (0 ≤ (t256 : Int)) = True := eq_true (od)
    have qi257 : (t256 < (y253.length : Int)) = True := eq_true (od)
    have n0_ := am (blk_drew BK252.out)
    have n1_ := am (below_drew1 HB.out)
    clear BK252
    clear HB
    have BK252 := n0_
    have HB := n1_
    clear n0_ n1_
    refine start_ (n := 12) (S := fun w' => w'.cell? ⟨gb252, 0, none⟩ = some (.int .i64 a0_0) ∧ w'.cell? ⟨gb252, 1, none⟩ = some (.bool false)) (ds := []) #[F,F,F,F,F,F,F,F,F,F,F,F] (by kernel_rfl) rfl rfl ⟨(blk_cell BK252.out 0).trans rfl, (blk_cell BK252.out 1).trans rfl⟩ (fun hHeld => ?_); refine with_tabW spec_l1Height.tab1 spec_l1Height.bits1 (fun HT_ HW_ => ?_)
    generalize w14.drew = w15 at BK252 HB hHeld ⊢
    refine pz 0 (some 4) #[T,F,F,F,F,F,F,F,F,F,F,F] (any_of HT_.out (by kernel_rfl)) (h := ?_)
    refine pz 5 (some 9) #[T,F,F,F,F,T,F,F,F,F,F,F] (any_of HT_.out (by kernel_rfl)) (h := ?_)
    refine tz hHeld 1 (some 5) #[T,T,F,F,F,T,F,F,F,F,F,F] (take_ofW HT_.out HW_.out (by kernel_rfl)) (h := ?_)
    refine pz 2 (some 6) #[T,T,T,F,F,T,F,F,F,F,F,F] (any_of HT_.out (by kernel_rfl)) (h := ?_)
    refine pz 3 (some 7) #[T,T,T,T,F,T,F,F,F,F,F,F] (any_of HT_.out (by kernel_rfl)) (h := ?_)
    refine tz hHeld 6 (some 10) #[T,T,T,T,F,T,T,F,F,F,F,F] (take_ofW HT_.out HW_.out (by kernel_rfl)) (h := ?_)
    refine join_ (σ := Value × Addr) 4 #[T,T,T,T,T,T,T,T,F,F,F,F] (fun s_ => [(8, s_.1), (11, .int .i64 t256)]) (fun s_ w' => (w'.cell? ⟨gb252, 0, none⟩ = some (.int .i64 a0_0) ∧ w'.cell? ⟨gb252, 1, none⟩ = some (.bool false)) ∧ (Kd.R (Kd.int .i64) 3 w' w.heap.size (fun _ => True) s_.1 y253) ∧ (∃ c_, (s_.1 : Value) = .slice (some s_.2) y253.length c_) ∧ (w'.heap[gb252]? = some (.cells #[.int .i64 a0_0, .bool false] 30 (0, 0))) ∧ (Below w.heap.size w w')) ?_ ?_
    rotate_left
    ·intro hCont
     refine two_ (i := 4) (j := 7) (Ni := some 8) (Nj := some 11) #[T,T,T,T,T,T,T,F,F,F,F,F] #[T,T,T,T,F,T,T,T,F,F,F,F] rfl rfl rfl rfl (two_of HT_.out (by kernel_rfl)) (by decide) (by decide) (fun K hK => ?_) (fun K hK => ?_)
     ·skip
      refine Kd.R_lit_step (Kd.int .i64) _ 3 ?hg (N := 8) ?hd (xs := ([0, 2, 4, 5, 7, 9, 10] : List Int)) (inner := [.int .i64 0, .int .i64 2, .int .i64 4, .int .i64 5, .int .i64 7, .int .i64 9, .int .i64 10]) (ok := fun _ => True) (okp := fun _ => True) ?hr ?hp (fun _ hk => hk) trivial (Below.refl _ _) (Nat.le_refl _) (by simp) ?_; (case hd => rfl); (case hg => rfl); (case hr => first | (go_simp; done) | (go_simp; rfl)); (case hp => exact (Reps.one (show Kd.M (Kd.int .i64) _ _ _ 0 [.int .i64 0] from rfl) (Reps.one (show Kd.M (Kd.int .i64) _ _ _ 2 [.int .i64 2] from rfl) (Reps.one (show Kd.M (Kd.int .i64) _ _ _ 4 [.int .i64 4] from rfl) (Reps.one (show Kd.M (Kd.int .i64) _ _ _ 5 [.int .i64 5] from rfl) (Reps.one (show Kd.M (Kd.int .i64) _ _ _ 7 [.int .i64 7] from rfl) (Reps.one (show Kd.M (Kd.int .i64) _ _ _ 9 [.int .i64 9] from rfl) (Reps.one (show Kd.M (Kd.int .i64) _ _ _ 10 [.int .i64 10] from rfl) (Reps.none _ _)))))))))
      intro v254 w16 ho17 hb hg_ hnew_
      clear hg_ hnew_
      (first | rw [← Ny253.out] at ho17 | (simp only [Int.reduceToNat] at ho17; rw [← Ny253.out] at ho17))
      have n0_ := am (Kd.R_lower ho17 (below_size (bu HB.out)))
      have n1_ := am (blk_below (g := gb252) (o := .cells #[.int .i64 a0_0, .bool false] 30 (0, 0)) (gu BK252.out) hb)
      have n2_ := am (below_step (bu HB.out) hb)
      clear BK252
      clear HB
      have HO255 := n0_
      have BK252 := n1_
      have HB := n2_
      clear n0_ n1_ n2_
      clear hb ho17
      obtain ⟨Ao18, co18, eo18⟩ := Kd.R_slice HO255.out
      subst eo18
      obtain ⟨ado18, fo18, _⟩ := Kd.at_int (Kd.R_reads' HO255.out).2.2 0 (by decide) (by rw [Ny253.out]; simp)
      cases fo18
      refine hK.out _ _ ⟨(blk_cell BK252.out 0).trans rfl, (blk_cell BK252.out 1).trans rfl⟩ (fun hHeld => ?_)
      clear hK K
      refine norm_ (a' := ?_) ?_ ?_
      rotate_left
      ·show Act.put _ (some 8) _ = _
       simp only [Act.put, sA, sZ, sS, i64_w, i32_w]
       rfl
      refine one_ (i := 7) (N := some 11) #[T,T,T,T,T,T,T,T,F,F,F,F] rfl rfl (one_of HT_.out (by kernel_rfl)) (by decide) (fun K hK => ?_)
      refine goes_ Tryd.func129 (by kernel_rfl) rfl #[.int .i64 a0_0] (by rfl) rfl rfl (by (try simp only [List.map_toArray, List.map_cons, List.map_nil]); first | done | rfl | (simp only [List.length_drop, List.length_take]; rfl)) ?_
      with_reducible refine (spec_l1Letter.calls a0_0 t256 _ A2.out).mono ?_
      rintro e w' ⟨rfl, ⟨nd, rfl⟩⟩
      refine ⟨_, rfl, ?_⟩
      refine hK.out _ _ ⟨(blk_cell BK252.out 0).trans rfl, (blk_cell BK252.out 1).trans rfl⟩ (fun hHeld => ?_)
      clear hK K
      refine norm_ (a' := ?_) ?_ ?_
      rotate_left
      ·show Act.put _ (some 11) _ = _
       simp only [Act.put, sA, sZ, sS, i64_w, i32_w]
       rfl
      exact norm_ (by simp only [putAll, Act.put, sA, sZ, sS]) (hCont (.slice (some ado18) y253.length co18, ado18) _ ⟨hHeld, (ru HO255.out), ⟨_, rfl⟩, (gu BK252.out), (bu HB.out)⟩)
     ·skip
      refine goes_ Tryd.func129 (by kernel_rfl) rfl #[.int .i64 a0_0] (by rfl) rfl rfl (by (try simp only [List.map_toArray, List.map_cons, List.map_nil]); first | done | rfl | (simp only [List.length_drop, List.length_take]; rfl)) ?_
      with_reducible refine (spec_l1Letter.calls a0_0 t256 _ A2.out).mono ?_
      rintro e w' ⟨rfl, ⟨nd, rfl⟩⟩
      refine ⟨_, rfl, ?_⟩
      refine hK.out _ _ ⟨(blk_cell BK252.out 0).trans rfl, (blk_cell BK252.out 1).trans rfl⟩ (fun hHeld => ?_)
      clear hK K
      refine norm_ (a' := ?_) ?_ ?_
      rotate_left
      ·show Act.put _ (some 11) _ = _
       simp only [Act.put, sA, sZ, sS, i64_w, i32_w]
       rfl
      refine one_ (i := 4) (N := some 8) #[T,T,T,T,T,T,T,T,F,F,F,F] rfl rfl (one_of HT_.out (by kernel_rfl)) (by decide) (fun K hK => ?_)
      refine Kd.R_lit_step (Kd.int .i64) _ 3 ?hg (N := 8) ?hd (xs := ([0, 2, 4, 5, 7, 9, 10] : List Int)) (inner := [.int .i64 0, .int .i64 2, .int .i64 4, .int .i64 5, .int .i64 7, .int .i64 9, .int .i64 10]) (ok := fun _ => True) (okp := fun _ => True) ?hr ?hp (fun _ hk => hk) trivial (Below.refl _ _) (Nat.le_refl _) (by simp) ?_; (case hd => rfl); (case hg => rfl); (case hr => first | (go_simp; done) | (go_simp; rfl)); (case hp => exact (Reps.one (show Kd.M (Kd.int .i64) _ _ _ 0 [.int .i64 0] from rfl) (Reps.one (show Kd.M (Kd.int .i64) _ _ _ 2 [.int .i64 2] from rfl) (Reps.one (show Kd.M (Kd.int .i64) _ _ _ 4 [.int .i64 4] from rfl) (Reps.one (show Kd.M (Kd.int .i64) _ _ _ 5 [.int .i64 5] from rfl) (Reps.one (show Kd.M (Kd.int .i64) _ _ _ 7 [.int .i64 7] from rfl) (Reps.one (show Kd.M (Kd.int .i64) _ _ _ 9 [.int .i64 9] from rfl) (Reps.one (show Kd.M (Kd.int .i64) _ _ _ 10 [.int .i64 10] from rfl) (Reps.none _ _)))))))))
      intro v254 w16 ho17 hb hg_ hnew_
      clear hg_ hnew_
      (first | rw [← Ny253.out] at ho17 | (simp only [Int.reduceToNat] at ho17; rw [← Ny253.out] at ho17))
      have n0_ := am (Kd.R_lower ho17 (below_size (bu HB.out)))
      have n1_ := am (blk_below (g := gb252) (o := .cells #[.int .i64 a0_0, .bool false] 30 (0, 0)) (gu BK252.out) hb)
      have n2_ := am (below_step (bu HB.out) hb)
      clear BK252
      clear HB
      have HO255 := n0_
      have BK252 := n1_
      have HB := n2_
      clear n0_ n1_ n2_
      clear hb ho17
      obtain ⟨Ao18, co18, eo18⟩ := Kd.R_slice HO255.out
      subst eo18
      obtain ⟨ado18, fo18, _⟩ := Kd.at_int (Kd.R_reads' HO255.out).2.2 0 (by decide) (by rw [Ny253.out]; simp)
      cases fo18
      refine hK.out _ _ ⟨(blk_cell BK252.out 0).trans rfl, (blk_cell BK252.out 1).trans rfl⟩ (fun hHeld => ?_)
      clear hK K
      refine norm_ (a' := ?_) ?_ ?_
      rotate_left
      ·show Act.put _ (some 8) _ = _
       simp only [Act.put, sA, sZ, sS, i64_w, i32_w]
       rfl
      exact norm_ (by simp only [putAll, Act.put, sA, sZ, sS]) (hCont (.slice (some ado18) y253.length co18, ado18) _ ⟨hHeld, (ru HO255.out), ⟨_, rfl⟩, (gu BK252.out), (bu HB.out)⟩)
    rintro ⟨v254, adz_v254⟩ w19 ⟨hS_, h0_, h1_, h2_, h3_⟩
    have n0_ : Aside0 (Kd.R (Kd.int .i64) 3 w19 w.heap.size (fun _ => True) v254 y253) := ⟨h0_⟩
    have n1_ : Aside0 (∃ c_, (v254 : Value) = .slice (some adz_v254) y253.length c_) := ⟨h1_⟩
    have n2_ : Aside0 (w19.heap[gb252]? = some (.cells #[.int .i64 a0_0, .bool false] 30 (0, 0))) := ⟨h2_⟩
    have n3_ : Aside0 (Below w.heap.size w w19) := ⟨h3_⟩
    clear BK252
    clear HB
    clear h0_ h1_ h2_ h3_
    have HO255 := n0_
    have HA_HO255 := n1_
    have BK252 := n2_
    have HB := n3_
    clear n0_ n1_ n2_ n3_
    have hHeld : w19.cell? ⟨gb252, 0, none⟩ = some (.int .i64 a0_0) ∧ w19.cell? ⟨gb252, 1, none⟩ = some (.bool false) := hS_
    obtain ⟨co20, eo20⟩ := HA_HO255.out
    clear HA_HO255
    subst eo20
    refine norm_ (a' := ?_) ?_ ?_
    rotate_left
    ·simp only [putAll, Act.put, sA, sZ, sS]
     rfl
    refine pz 8 (some 12) #[T,T,T,T,T,T,T,T,T,F,F,F] (any_of HT_.out (by kernel_rfl)) (h := ?_)
    refine one_ (i := 9) (N := some 13) #[T,T,T,T,T,T,T,T,T,T,F,F] rfl rfl (one_of HT_.out (by kernel_rfl)) (by decide) (fun K hK => ?_)
    (have p257 : 0 ≤ (t256 : Int) := od; have q257 : t256 < (y253.length : Int) := od; obtain ⟨ad257, e257, hx257_0⟩ := Kd.at_int (Kd.R_reads' HO255.out).2.2 t256 p257 q257; obtain rfl : adz_v254 = ad257 := (by injection e257))
    refine value_ (w1 := ?_) (v := ?_) (by rfl) rfl ?_ ?_
    rotate_left 2
    ·go_simp
     constructor
     ·rfl
     ·rfl
    clear hx257_0
    refine hK.out _ _ ⟨(blk_cell BK252.out 0).trans rfl, (blk_cell BK252.out 1).trans rfl⟩ (fun hHeld => ?_)
    clear hK K
    refine norm_ (a' := ?_) ?_ ?_
    rotate_left
    ·show Act.put _ (some 13) _ = _
     simp only [Act.put, sA, sZ, sS, i64_w, i32_w]
     rfl
    refine pz 10 (some 14) #[T,T,T,T,T,T,T,T,T,T,T,F] (any_of HT_.out (by kernel_rfl)) (h := ?_)
    refine pz 11 (some 3) #[T,T,T,T,T,T,T,T,T,T,T,T] (any_of HT_.out (by kernel_rfl)) (h := ?_)
    refine done_ (done_of HT_.out (by kernel_rfl)) ?_
    have hcz21_0 : w19.cell? ⟨gb252, 0, none⟩ = some (.int .i64 a0_0) := (blk_cell BK252.out 0).trans rfl
    have hcz21_1 : w19.cell? ⟨gb252, 1, none⟩ = some (.bool false) := (blk_cell BK252.out 1).trans rfl
    have hfz21_0 := blk_frozen BK252.out 0
    have hfz21_1 := blk_frozen BK252.out 1
    try go_wp2
    go_ret
    exact ⟨by first | rfl | (simp [errW_none, errW_some] <;> rfl) | (simp [*, errW_none, errW_some] <;> rfl), bu HB.out⟩
  ·rw [if_neg c4] at H
   exact absurd H (by simp)
 ·rw [if_neg c3] at H
  exact absurd H (by simp)

/-! ### spec_l6Dec: function 144 -/
def spec_l6Dec.f : Nat → Int → Option (ByteArray)
 | 0, _ => none
 | k + 1, a0 => if a0 < (-9223372036854775807) then (some (⟨#[45, 57, 50, 50, 51, 51, 55, 50, 48, 51, 54, 56, 53, 52, 55, 55, 53, 56, 48, 56]⟩ : ByteArray)) else (if a0 < 0 then ((spec_l6Dec.f k (wrap64 (-a0))).bind fun t258 => (if 1 + t258.size ≤ 9223372036854775807 then (some ((⟨#[45]⟩ : ByteArray) ++ t258)) else (none))) else (if a0 < 10 then (some (strOfNums (([(wrap64 (48 + a0)) % 256] : List Int)))) else ((spec_l6Dec.f k (wrap64 (Int.tdiv a0 10))).bind fun t262 => ((some (([(wrap64 (48 + (Int.tmod a0 10))) % 256] : List Int) : List Int)).bind fun y263 => (if t262.size + (strOfNums y263).size ≤ 9223372036854775807 then (some (t262 ++ (strOfNums y263))) else (none))))))
theorem spec_l6Dec.mono_l : ∀ k, (∀ y0, LeO (spec_l6Dec.f k y0) (spec_l6Dec.f (k + 1) y0))
 | 0 => fun _ r h => by simp [spec_l6Dec.f] at h
 | k + 1 => by
  have ih0 := spec_l6Dec.mono_l k
  ·intro y0
   unfold spec_l6Dec.f
   repeat' first
   | (with_reducible exact ih0 _)
   | (with_reducible exact LeO.refl _)
   | (with_reducible exact LeO.none _)
   | (with_reducible refine LeO.ite ?_ ?_)
   | (with_reducible refine LeO.bind ?_ (fun _ => ?_))
   | exact ih0 _
   | exact LeO.none _
   | refine LeO.ite ?_ ?_
   | refine LeO.bind ?_ (fun _ => ?_)
theorem spec_l6Dec.mono : ∀ a0 k, LeO (spec_l6Dec.f k a0) (spec_l6Dec.f (k + 1) a0) := by
 intro a0 k
 have ih0 := spec_l6Dec.mono_l k
 exact ih0 a0
def spec_l6Dec.T7 : Bool × List (List Nat × List Nat) := (true, [([], []), ([0], [0]), ([1], [1]), ([], []), ([3], [3]), ([4], [4]), ([5], [5]), ([6], [6]), ([7], [7]), ([2, 8], [2, 8]), ([9, 2, 0, 1, 2, 3, 4, 5, 6, 7, 8, 9], [9])])
def spec_l6Dec.B7 : List Nat := [0, 1, 3, 0, 8, 24, 56, 120, 248, 511, 1023]
theorem spec_l6Dec.tab7 : rtab .any (opsOf Tryd.f144 7) = spec_l6Dec.T7 := by kernel_rfl
theorem spec_l6Dec.bits7 : waitsOk spec_l6Dec.T7.2 spec_l6Dec.B7 = true := by kernel_rfl
set_option maxHeartbeats 8000000 in
set_option maxRecDepth 100000 in
theorem spec_l6Dec.calls (k : Nat) : ∀ (a0 : Int) (r : ByteArray) (w : World) (h : spec_l6Dec.f k a0 = some r),
  Calls Tryd.prog 144 #[.int .i64 a0] w fun e w' => e = .returned (.string r) ∧ Below w.heap.size w w' := by
 induction k using Nat.strongRecOn with
 | _ k ih =>
 intro a0 r w h
 cases k with
 | zero => exact absurd h (by simp [spec_l6Dec.f])
 | succ k =>
 simp only [spec_l6Dec.f] at h
 have HB := am (Below.refl w.heap.size w)
 have H : (if a0 < (-9223372036854775807) then (some (⟨#[45, 57, 50, 50, 51, 51, 55, 50, 48, 51, 54, 56, 53, 52, 55, 55, 53, 56, 48, 56]⟩ : ByteArray)) else (if a0 < 0 then ((spec_l6Dec.f k (wrap64 (-a0))).bind fun t258 => (if 1 + t258.size ≤ 9223372036854775807 then (some ((⟨#[45]⟩ : ByteArray) ++ t258)) else (none))) else (if a0 < 10 then (some (strOfNums (([(wrap64 (48 + a0)) % 256] : List Int)))) else ((spec_l6Dec.f k (wrap64 (Int.tdiv a0 10))).bind fun t262 => ((some (([(wrap64 (48 + (Int.tmod a0 10))) % 256] : List Int) : List Int)).bind fun y263 => (if t262.size + (strOfNums y263).size ≤ 9223372036854775807 then (some (t262 ++ (strOfNums y263))) else (none))))))) = some r := h
 clear h
 by_cases c2 : a0 < (-9223372036854775807)
 ·rw [if_pos c2] at H
  have c2b0 : decide (a0 < (-9223372036854775807)) = true := decide_eq_true c2
  clear c2
  obtain rfl := Option.some.inj H
  go_enter Tryd.func144, Tryd.ntmps144
  go_wp2
  go_ret
  exact ⟨by first | rfl | (simp [errW_none, errW_some] <;> rfl) | (simp [*, errW_none, errW_some] <;> rfl), bu HB.out⟩
 ·rw [if_neg c2] at H
  have c2b0 : decide (a0 < (-9223372036854775807)) = false := decide_eq_false c2
  clear c2
  by_cases c3 : a0 < 0
  ·rw [if_pos c3] at H
   have c3b0 : decide (a0 < 0) = true := decide_eq_true c3
   clear c3
   replace H := Option.bind_eq_some_iff.mp H
   obtain ⟨t258, A40, H⟩ := H
   replace H : (if 1 + t258.size ≤ 9223372036854775807 then (some ((⟨#[45]⟩ : ByteArray) ++ t258)) else (none)) = some r := H
   have A4 := am A40
   clear A40
   by_cases c5 : 1 + t258.size ≤ 9223372036854775807
   ·rw [if_pos c5] at H
    have c5b0 := eq_true c5
    have c5b1 : decide (1 + t258.size ≤ 9223372036854775807) = true := decide_eq_true c5
    try have c5b2 : (9223372036854775807 < 1 + t258.size) = False := eq_false (Nat.not_lt.2 c5)
    obtain rfl := Option.some.inj H
    go_enter Tryd.func144, Tryd.ntmps144
    go_wp2_with (first | ((with_reducible refine gate_callee (f := 144) rfl ?_); refine goesL_ (some 9) rfl rfl Tryd.func144 (by kernel_rfl) rfl #[.int .i64 (wrap64 (-a0))] rfl (by (try simp only [List.map_toArray, List.map_cons, List.map_nil]); first | done | rfl | (simp only [List.length_drop, List.length_take]; rfl)) ?_; (with_reducible refine (ih k (by omega) (wrap64 (-a0)) t258 _ A4.out).mono ?_); rintro e w6 ⟨rfl, hb⟩; refine ⟨_, rfl, ?_⟩; have n0_ := am (below_step (bu HB.out) hb); clear HB; have HB := n0_; clear n0_; (try clear hb); (try clear hb2); (try clear hk); (try clear hi)))
    go_ret
    exact ⟨by first | rfl | (simp [errW_none, errW_some] <;> rfl) | (simp [*, errW_none, errW_some] <;> rfl), bu HB.out⟩
   ·rw [if_neg c5] at H
    exact absurd H (by simp)
  ·rw [if_neg c3] at H
   have c3b0 : decide (a0 < 0) = false := decide_eq_false c3
   clear c3
   by_cases c7 : a0 < 10
   ·rw [if_pos c7] at H
    have c7b0 : decide (a0 < 10) = true := decide_eq_true c7
    clear c7
    obtain ⟨y259, hy259⟩ : ∃ y_ : List Int, y_ = (([(wrap64 (48 + a0)) % 256] : List Int)) := ⟨_, rfl⟩
    replace H : (some (strOfNums y259)) = some r := by first | (rw [hy259]; with_reducible exact H) | (have H2_ := (Option.bind_some _ _).symm.trans H; rw [hy259]; with_reducible exact H2_) | (have H2_ := (Option.bind_some _ _).symm.trans H; with_reducible exact H2_) | with_reducible exact H | (rw [hy259]; exact H) | exact H
    have Ny259 := am hy259
    clear hy259
    obtain rfl := Option.some.inj H
    go_enter Tryd.func144, Tryd.ntmps144
    go_wp2_with (first | ((with_reducible refine gate_dst (N := 16) rfl ?_); refine Kd.R_lit (Kd.int .u8) _ 5 ?hg (N := 16) ?hd (xs := ([(wrap64 (48 + a0)) % 256] : List Int)) (inner := [.int .u8 ((wrap64 (48 + a0)) % 256)]) (ok := fun _ => True) (okp := fun _ => True) ?hr ?hp (fun _ hk => hk) trivial (Below.refl _ _) (Nat.le_refl _) (by simp) ?_; (case hd => rfl); (case hg => rfl); (case hr => first | (go_simp; done) | (go_simp; rfl)); (case hp => exact (Reps.one (show Kd.M (Kd.int .u8) _ _ _ ((wrap64 (48 + a0)) % 256) [.int .u8 ((wrap64 (48 + a0)) % 256)] from rfl) (Reps.none _ _))); intro v260 w8 ho9 hb hg_ hnew_; clear hg_ hnew_; (first | rw [← Ny259.out] at ho9 | (simp only [Int.reduceToNat] at ho9; rw [← Ny259.out] at ho9)); have n0_ := am (Kd.R_lower ho9 (below_size (bu HB.out))); have n1_ := am (below_step (bu HB.out) hb); clear HB; have HO261 := n0_; have HB := n1_; clear n0_ n1_; clear hb ho9; have hcv10 := own_string (P := Tryd.prog) Tryd.underlying22 Tryd.underlying5 Tryd.underlying9 (Kd.own_of_R HO261.out)))
    go_ret
    exact ⟨by first | rfl | (simp [errW_none, errW_some] <;> rfl) | (simp [*, errW_none, errW_some] <;> rfl), bu HB.out⟩
   ·rw [if_neg c7] at H
    have c7b0 : decide (a0 < 10) = false := decide_eq_false c7
    clear c7
    replace H := Option.bind_eq_some_iff.mp H
    obtain ⟨t262, A110, H⟩ := H
    replace H : ((some (([(wrap64 (48 + (Int.tmod a0 10))) % 256] : List Int) : List Int)).bind fun y263 => (if t262.size + (strOfNums y263).size ≤ 9223372036854775807 then (some (t262 ++ (strOfNums y263))) else (none))) = some r := H
    have A11 := am A110
    clear A110
    obtain ⟨y263, hy263⟩ : ∃ y_ : List Int, y_ = (([(wrap64 (48 + (Int.tmod a0 10))) % 256] : List Int)) := ⟨_, rfl⟩
    replace H : (if t262.size + (strOfNums y263).size ≤ 9223372036854775807 then (some (t262 ++ (strOfNums y263))) else (none)) = some r := by first | (rw [hy263]; with_reducible exact H) | (have H2_ := (Option.bind_some _ _).symm.trans H; rw [hy263]; with_reducible exact H2_) | (have H2_ := (Option.bind_some _ _).symm.trans H; with_reducible exact H2_) | with_reducible exact H | (rw [hy263]; exact H) | exact H
    have Ny263 := am hy263
    clear hy263
    by_cases c12 : t262.size + (strOfNums y263).size ≤ 9223372036854775807
    ·rw [if_pos c12] at H
     have c12b0 := eq_true c12
     have c12b1 : decide (t262.size + (strOfNums y263).size ≤ 9223372036854775807) = true := decide_eq_true c12
     try have c12b2 : (9223372036854775807 < t262.size + (strOfNums y263).size) = False := eq_false (Nat.not_lt.2 c12)
     obtain rfl := Option.some.inj H
     go_enter Tryd.func144, Tryd.ntmps144
     try go_wp2
     have n0_ := am (below_drew1 HB.out)
     clear HB
     have HB := n0_
     clear n0_
     refine start_ (n := 11) (S := fun w' => True) (ds := []) #[F,F,F,F,F,F,F,F,F,F,F] (by kernel_rfl) rfl rfl trivial (fun hHeld => ?_); refine with_tabW spec_l6Dec.tab7 spec_l6Dec.bits7 (fun HT_ HW_ => ?_)
     generalize w.drew = w13 at HB hHeld ⊢
     refine pz 0 (some 18) #[T,F,F,F,F,F,F,F,F,F,F] (any_of HT_.out (by kernel_rfl)) (h := ?_)
     refine pz 1 (some 19) #[T,T,F,F,F,F,F,F,F,F,F] (any_of HT_.out (by kernel_rfl)) (h := ?_)
     refine pz 3 (some 21) #[T,T,F,T,F,F,F,F,F,F,F] (any_of HT_.out (by kernel_rfl)) (h := ?_)
     refine pz 4 (some 22) #[T,T,F,T,T,F,F,F,F,F,F] (any_of HT_.out (by kernel_rfl)) (h := ?_)
     refine pz 5 (some 23) #[T,T,F,T,T,T,F,F,F,F,F] (any_of HT_.out (by kernel_rfl)) (h := ?_)
     refine pz 6 (some 24) #[T,T,F,T,T,T,T,F,F,F,F] (any_of HT_.out (by kernel_rfl)) (h := ?_)
     refine join_ (σ := Value) 2 #[T,T,T,T,T,T,T,T,T,F,F] (fun s_ => [(20, .string t262), (25, s_), (26, .string (strOfNums y263))]) (fun s_ w' => (Kd.R (Kd.int .u8) 5 w' w.heap.size (fun _ => True) s_ y263) ∧ (Below w.heap.size w w')) ?_ ?_
     rotate_left
     ·intro hCont
      refine two_ (i := 2) (j := 7) (Ni := some 20) (Nj := some 25) #[T,T,T,T,T,T,T,F,F,F,F] #[T,T,F,T,T,T,T,T,F,F,F] rfl rfl rfl rfl (two_of HT_.out (by kernel_rfl)) (by decide) (by decide) (fun K hK => ?_) (fun K hK => ?_)
      ·skip
       refine goes_ Tryd.func144 (by kernel_rfl) rfl #[.int .i64 (wrap64 (Int.tdiv a0 10))] (by rfl) rfl rfl (by (try simp only [List.map_toArray, List.map_cons, List.map_nil]); first | done | rfl | (simp only [List.length_drop, List.length_take]; rfl)) ?_
       with_reducible refine (ih k (by omega) (wrap64 (Int.tdiv a0 10)) t262 _ A11.out).mono ?_
       rintro e w14 ⟨rfl, hb⟩
       refine ⟨_, rfl, ?_⟩
       have n0_ := am (below_step (bu HB.out) hb)
       clear HB
       have HB := n0_
       clear n0_
       (try clear hb)
       (try clear hb2)
       (try clear hk)
       (try clear hi)
       refine hK.out _ _ trivial (fun hHeld => ?_)
       clear hK K
       refine norm_ (a' := ?_) ?_ ?_
       rotate_left
       ·show Act.put _ (some 20) _ = _
        simp only [Act.put, sA, sZ, sS, i64_w, i32_w]
        rfl
       refine one_ (i := 7) (N := some 25) #[T,T,T,T,T,T,T,T,F,F,F] rfl rfl (one_of HT_.out (by kernel_rfl)) (by decide) (fun K hK => ?_)
       refine Kd.R_lit_step (Kd.int .u8) _ 5 ?hg (N := 25) ?hd (xs := ([(wrap64 (48 + (Int.tmod a0 10))) % 256] : List Int)) (inner := [.int .u8 ((wrap64 (48 + (Int.tmod a0 10))) % 256)]) (ok := fun _ => True) (okp := fun _ => True) ?hr ?hp (fun _ hk => hk) trivial (Below.refl _ _) (Nat.le_refl _) (by simp) ?_; (case hd => rfl); (case hg => rfl); (case hr => first | (go_simp; done) | (go_simp; rfl)); (case hp => exact (Reps.one (show Kd.M (Kd.int .u8) _ _ _ ((wrap64 (48 + (Int.tmod a0 10))) % 256) [.int .u8 ((wrap64 (48 + (Int.tmod a0 10))) % 256)] from rfl) (Reps.none _ _)))
       intro v264 w15 ho16 hb hg_ hnew_
       clear hg_ hnew_
       (first | rw [← Ny263.out] at ho16 | (simp only [Int.reduceToNat] at ho16; rw [← Ny263.out] at ho16))
       have n0_ := am (Kd.R_lower ho16 (below_size (bu HB.out)))
       have n1_ := am (below_step (bu HB.out) hb)
       clear HB
       have HO265 := n0_
       have HB := n1_
       clear n0_ n1_
       clear hb ho16
       refine hK.out _ _ trivial (fun hHeld => ?_)
       clear hK K
       refine norm_ (a' := ?_) ?_ ?_
       rotate_left
       ·show Act.put _ (some 25) _ = _
        simp only [Act.put, sA, sZ, sS, i64_w, i32_w]
        rfl
       refine one_ (i := 8) (N := some 26) #[T,T,T,T,T,T,T,T,T,F,F] rfl rfl (one_of HT_.out (by kernel_rfl)) (by decide) (fun K hK => ?_)
       have hcv17 := own_string (P := Tryd.prog) Tryd.underlying22 Tryd.underlying5 Tryd.underlying9 (Kd.own_of_R HO265.out)
       refine value_ (w1 := ?_) (v := ?_) (by rfl) rfl ?_ ?_
       rotate_left 2
       ·go_simp
        constructor
        ·rfl
        ·rfl
       clear hcv17
       refine hK.out _ _ trivial (fun hHeld => ?_)
       clear hK K
       refine norm_ (a' := ?_) ?_ ?_
       rotate_left
       ·show Act.put _ (some 26) _ = _
        simp only [Act.put, sA, sZ, sS, i64_w, i32_w]
        rfl
       exact norm_ (by simp only [putAll, Act.put, sA, sZ, sS]) (hCont (v264) _ ⟨(ru HO265.out), (bu HB.out)⟩)
      ·skip
       refine Kd.R_lit_step (Kd.int .u8) _ 5 ?hg (N := 25) ?hd (xs := ([(wrap64 (48 + (Int.tmod a0 10))) % 256] : List Int)) (inner := [.int .u8 ((wrap64 (48 + (Int.tmod a0 10))) % 256)]) (ok := fun _ => True) (okp := fun _ => True) ?hr ?hp (fun _ hk => hk) trivial (Below.refl _ _) (Nat.le_refl _) (by simp) ?_; (case hd => rfl); (case hg => rfl); (case hr => first | (go_simp; done) | (go_simp; rfl)); (case hp => exact (Reps.one (show Kd.M (Kd.int .u8) _ _ _ ((wrap64 (48 + (Int.tmod a0 10))) % 256) [.int .u8 ((wrap64 (48 + (Int.tmod a0 10))) % 256)] from rfl) (Reps.none _ _)))
       intro v264 w14 ho15 hb hg_ hnew_
       clear hg_ hnew_
       (first | rw [← Ny263.out] at ho15 | (simp only [Int.reduceToNat] at ho15; rw [← Ny263.out] at ho15))
       have n0_ := am (Kd.R_lower ho15 (below_size (bu HB.out)))
       have n1_ := am (below_step (bu HB.out) hb)
       clear HB
       have HO265 := n0_
       have HB := n1_
       clear n0_ n1_
       clear hb ho15
       refine hK.out _ _ trivial (fun hHeld => ?_)
       clear hK K
       refine norm_ (a' := ?_) ?_ ?_
       rotate_left
       ·show Act.put _ (some 25) _ = _
        simp only [Act.put, sA, sZ, sS, i64_w, i32_w]
        rfl
       refine two_ (i := 2) (j := 8) (Ni := some 20) (Nj := some 26) #[T,T,T,T,T,T,T,T,F,F,F] #[T,T,F,T,T,T,T,T,T,F,F] rfl rfl rfl rfl (two_of HT_.out (by kernel_rfl)) (by decide) (by decide) (fun K hK => ?_) (fun K hK => ?_)
       ·skip
        refine goes_ Tryd.func144 (by kernel_rfl) rfl #[.int .i64 (wrap64 (Int.tdiv a0 10))] (by rfl) rfl rfl (by (try simp only [List.map_toArray, List.map_cons, List.map_nil]); first | done | rfl | (simp only [List.length_drop, List.length_take]; rfl)) ?_
        with_reducible refine (ih k (by omega) (wrap64 (Int.tdiv a0 10)) t262 _ A11.out).mono ?_
        rintro e w16 ⟨rfl, hb⟩
        refine ⟨_, rfl, ?_⟩
        have n0_ := am (Kd.R_below (ru HO265.out) hb)
        have n1_ := am (below_step (bu HB.out) hb)
        clear HO265
        clear HB
        have HO265 := n0_
        have HB := n1_
        clear n0_ n1_
        (try clear hb)
        (try clear hb2)
        (try clear hk)
        (try clear hi)
        refine hK.out _ _ trivial (fun hHeld => ?_)
        clear hK K
        refine norm_ (a' := ?_) ?_ ?_
        rotate_left
        ·show Act.put _ (some 20) _ = _
         simp only [Act.put, sA, sZ, sS, i64_w, i32_w]
         rfl
        refine one_ (i := 8) (N := some 26) #[T,T,T,T,T,T,T,T,T,F,F] rfl rfl (one_of HT_.out (by kernel_rfl)) (by decide) (fun K hK => ?_)
        have hcv17 := own_string (P := Tryd.prog) Tryd.underlying22 Tryd.underlying5 Tryd.underlying9 (Kd.own_of_R HO265.out)
        refine value_ (w1 := ?_) (v := ?_) (by rfl) rfl ?_ ?_
        rotate_left 2
        ·go_simp
         constructor
         ·rfl
         ·rfl
        clear hcv17
        refine hK.out _ _ trivial (fun hHeld => ?_)
        clear hK K
        refine norm_ (a' := ?_) ?_ ?_
        rotate_left
        ·show Act.put _ (some 26) _ = _
         simp only [Act.put, sA, sZ, sS, i64_w, i32_w]
         rfl
        exact norm_ (by simp only [putAll, Act.put, sA, sZ, sS]) (hCont (v264) _ ⟨(ru HO265.out), (bu HB.out)⟩)
       ·skip
        have hcv16 := own_string (P := Tryd.prog) Tryd.underlying22 Tryd.underlying5 Tryd.underlying9 (Kd.own_of_R HO265.out)
        refine value_ (w1 := ?_) (v := ?_) (by rfl) rfl ?_ ?_
        rotate_left 2
        ·go_simp
         constructor
         ·rfl
         ·rfl
        clear hcv16
        refine hK.out _ _ trivial (fun hHeld => ?_)
        clear hK K
        refine norm_ (a' := ?_) ?_ ?_
        rotate_left
        ·show Act.put _ (some 26) _ = _
         simp only [Act.put, sA, sZ, sS, i64_w, i32_w]
         rfl
        refine one_ (i := 2) (N := some 20) #[T,T,T,T,T,T,T,T,T,F,F] rfl rfl (one_of HT_.out (by kernel_rfl)) (by decide) (fun K hK => ?_)
        refine goes_ Tryd.func144 (by kernel_rfl) rfl #[.int .i64 (wrap64 (Int.tdiv a0 10))] (by rfl) rfl rfl (by (try simp only [List.map_toArray, List.map_cons, List.map_nil]); first | done | rfl | (simp only [List.length_drop, List.length_take]; rfl)) ?_
        with_reducible refine (ih k (by omega) (wrap64 (Int.tdiv a0 10)) t262 _ A11.out).mono ?_
        rintro e w17 ⟨rfl, hb⟩
        refine ⟨_, rfl, ?_⟩
        have n0_ := am (Kd.R_below (ru HO265.out) hb)
        have n1_ := am (below_step (bu HB.out) hb)
        clear HO265
        clear HB
        have HO265 := n0_
        have HB := n1_
        clear n0_ n1_
        (try clear hb)
        (try clear hb2)
        (try clear hk)
        (try clear hi)
        refine hK.out _ _ trivial (fun hHeld => ?_)
        clear hK K
        refine norm_ (a' := ?_) ?_ ?_
        rotate_left
        ·show Act.put _ (some 20) _ = _
         simp only [Act.put, sA, sZ, sS, i64_w, i32_w]
         rfl
        exact norm_ (by simp only [putAll, Act.put, sA, sZ, sS]) (hCont (v264) _ ⟨(ru HO265.out), (bu HB.out)⟩)
     rintro v264 w18 ⟨h0_, h1_⟩
     have n0_ : Aside0 (Kd.R (Kd.int .u8) 5 w18 w.heap.size (fun _ => True) v264 y263) := ⟨h0_⟩
     have n1_ : Aside0 (Below w.heap.size w w18) := ⟨h1_⟩
     clear HB
     clear h0_ h1_
     have HO265 := n0_
     have HB := n1_
     clear n0_ n1_
     have hHeld := trivial
     refine norm_ (a' := ?_) ?_ ?_
     rotate_left
     ·simp only [putAll, Act.put, sA, sZ, sS]
      rfl
     refine pz 9 (some 27) #[T,T,T,T,T,T,T,T,T,T,F] (any_of HT_.out (by kernel_rfl)) (h := ?_)
     refine pz 10 (some 2) #[T,T,T,T,T,T,T,T,T,T,T] (any_of HT_.out (by kernel_rfl)) (h := ?_)
     refine done_ (done_of HT_.out (by kernel_rfl)) ?_
     try go_wp2
     go_ret
     exact ⟨by first | rfl | (simp [errW_none, errW_some] <;> rfl) | (simp [*, errW_none, errW_some] <;> rfl), bu HB.out⟩
    ·rw [if_neg c12] at H
     exact absurd H (by simp)

/-! ### spec_ToneSteps: function 156 -/
def spec_ToneSteps.f (a0_0 : Int) (a0_1 : Bool) (a1_0 : Int) (a1_1 : Bool) : Option (Int × Bool) := (spec_ToneValid.f a0_0 a0_1).bind fun t268 => (if t268 = true then ((spec_ToneValid.f a1_0 a1_1).bind fun t269 => (if t269 = true then (some (wrap64 (a1_0 - a0_0), true)) else (some (0, false)))) else (some (0, false)))
set_option maxHeartbeats 8000000 in
set_option maxRecDepth 100000 in
theorem spec_ToneSteps.calls (a0_0 : Int) (a0_1 : Bool) (a1_0 : Int) (a1_1 : Bool) (r1 : Int) (r2 : Bool) (w : World) (h : spec_ToneSteps.f a0_0 a0_1 a1_0 a1_1 = some (r1, r2)) :
  Calls Tryd.prog 156 #[.agg #[.int .i64 a0_0, .bool a0_1], .agg #[.int .i64 a1_0, .bool a1_1]] w fun e w' => e = .returned (.tuple #[.int .i64 r1, .bool r2]) ∧ Below w.heap.size w w' := by
 have hu30 := Tryd.underlying30
 have HB := am (Below.refl w.heap.size w)
 have H : ((spec_ToneValid.f a0_0 a0_1).bind fun t268 => (if t268 = true then ((spec_ToneValid.f a1_0 a1_1).bind fun t269 => (if t269 = true then (some (wrap64 (a1_0 - a0_0), true)) else (some (0, false)))) else (some (0, false)))) = some (r1, r2) := h
 clear h
 replace H := Option.bind_eq_some_iff.mp H
 obtain ⟨t268, A30, H⟩ := H
 replace H : (if t268 = true then ((spec_ToneValid.f a1_0 a1_1).bind fun t269 => (if t269 = true then (some (wrap64 (a1_0 - a0_0), true)) else (some (0, false)))) else (some (0, false))) = some (r1, r2) := H
 have A3 := am A30
 clear A30
 by_cases c4 : t268 = true
 ·subst c4
  have H1 : ((spec_ToneValid.f a1_0 a1_1).bind fun t269 => (if t269 = true then (some (wrap64 (a1_0 - a0_0), true)) else (some (0, false)))) = some (r1, r2) := by rw [if_pos rfl] at H; exact H
  clear H
  have H := H1
  clear H1
  replace H := Option.bind_eq_some_iff.mp H
  obtain ⟨t269, A50, H⟩ := H
  replace H : (if t269 = true then (some (wrap64 (a1_0 - a0_0), true)) else (some (0, false))) = some (r1, r2) := H
  have A5 := am A50
  clear A50
  by_cases c6 : t269 = true
  ·subst c6
   have H1 : (some (wrap64 (a1_0 - a0_0), true)) = some (r1, r2) := by rw [if_pos rfl] at H; exact H
   clear H
   have H := H1
   clear H1
   simp only [Option.some.injEq, Prod.mk.injEq] at H
   obtain ⟨rfl, rfl⟩ := H
   go_enter Tryd.func156, Tryd.ntmps156
   go_wp2_with (first | ((with_reducible refine gate_dst (N := 2) rfl ?_); refine box_event ?hg (N := 2) ?hd (cs := #[.int .i64 a0_0, .bool a0_1]) (t := 30) ?hr ?_; (case hd => rfl); (case hg => rfl); (case hr => first | (go_simp; done) | (go_simp; rfl)); intro gb266 hg w7 hbox hb; have n0_ := am (below_step (bu HB.out) hb); have n1_ := am (hbox); have n2_ := am ((by rw [hg]; exact (below_size (bu HB.out)) : w.heap.size ≤ gb266)); have n3_ := am ((by rw [hg]; exact (below_size (bu HB.out)) : w.heap.size ≤ gb266)); clear HB; have HB := n0_; have BK266 := n1_; have GW266 := n2_; have GE266 := n3_; clear n0_ n1_ n2_ n3_; clear hb hbox hg) | ((with_reducible refine gate_dst (N := 3) rfl ?_); refine box_event ?hg (N := 3) ?hd (cs := #[.int .i64 a1_0, .bool a1_1]) (t := 30) ?hr ?_; (case hd => rfl); (case hg => rfl); (case hr => first | (go_simp; done) | (go_simp; rfl)); intro gb267 hg w8 hbox hb; have n0_ := am (blk_below (g := gb266) (o := .cells #[.int .i64 a0_0, .bool a0_1] 30 (0, 0)) (gu BK266.out) hb); have n1_ := am (below_step (bu HB.out) hb); have n2_ := am (hbox); have n3_ := am ((by rw [hg]; exact (below_size (bu HB.out)) : w.heap.size ≤ gb267)); have n4_ := am ((by rw [hg]; exact (below_size (bu HB.out)) : w.heap.size ≤ gb267)); have n5_ := am ((by rw [hg]; exact Nat.ne_of_lt (blk_lt (g := gb266) (o := .cells #[.int .i64 a0_0, .bool a0_1] 30 (0, 0)) (gu BK266.out)) : gb266 ≠ gb267)); have n6_ := am ((by rw [hg]; exact Nat.ne_of_gt (blk_lt (g := gb266) (o := .cells #[.int .i64 a0_0, .bool a0_1] 30 (0, 0)) (gu BK266.out)) : gb267 ≠ gb266)); clear BK266; clear HB; have BK266 := n0_; have HB := n1_; have BK267 := n2_; have GW267 := n3_; have GE267 := n4_; have NB266_267 := n5_; have NB267_266 := n6_; clear n0_ n1_ n2_ n3_ n4_ n5_ n6_; clear hb hbox hg; have hnb9 := NB266_267.out; have hnc9 := NB267_266.out; have hcz10_0 : w8.cell? ⟨gb266, 0, none⟩ = some (.int .i64 a0_0) := (blk_cell BK266.out 0).trans rfl; have hcz10_1 : w8.cell? ⟨gb266, 1, none⟩ = some (.bool a0_1) := (blk_cell BK266.out 1).trans rfl; have hfz10_0 := blk_frozen BK266.out 0; have hfz10_1 := blk_frozen BK266.out 1) | ((with_reducible refine gate_callee (f := 130) rfl ?_); refine goesL_ (some 7) rfl rfl Tryd.func130 (by kernel_rfl) rfl #[.agg #[.int .i64 a0_0, .bool a0_1]] rfl (by (try simp only [List.map_toArray, List.map_cons, List.map_nil]); first | done | rfl | (simp only [List.length_drop, List.length_take]; rfl)) ?_; (with_reducible refine (spec_ToneValid.calls a0_0 a0_1 true _ A3.out).mono ?_); rintro e w11 ⟨rfl, hb⟩; refine ⟨_, rfl, ?_⟩; have n0_ := am (blk_below (g := gb266) (o := .cells #[.int .i64 a0_0, .bool a0_1] 30 (0, 0)) (gu BK266.out) hb); have n1_ := am (blk_below (g := gb267) (o := .cells #[.int .i64 a1_0, .bool a1_1] 30 (0, 0)) (gu BK267.out) hb); have n2_ := am (below_step (bu HB.out) hb); clear BK266; clear BK267; clear HB; have BK266 := n0_; have BK267 := n1_; have HB := n2_; clear n0_ n1_ n2_; (try clear hb); (try clear hb2); (try clear hk); (try clear hi); have hcz12_0 : w11.cell? ⟨gb267, 0, none⟩ = some (.int .i64 a1_0) := (blk_cell BK267.out 0).trans rfl; have hcz12_1 : w11.cell? ⟨gb267, 1, none⟩ = some (.bool a1_1) := (blk_cell BK267.out 1).trans rfl; have hfz12_0 := blk_frozen BK267.out 0; have hfz12_1 := blk_frozen BK267.out 1) | (go_at_call 130; (with_reducible refine (spec_ToneValid.calls a1_0 a1_1 true _ A5.out).mono ?_); rintro e w13 ⟨rfl, hb⟩; have n0_ := am (blk_below (g := gb266) (o := .cells #[.int .i64 a0_0, .bool a0_1] 30 (0, 0)) (gu BK266.out) hb); have n1_ := am (blk_below (g := gb267) (o := .cells #[.int .i64 a1_0, .bool a1_1] 30 (0, 0)) (gu BK267.out) hb); have n2_ := am (below_step (bu HB.out) hb); clear BK266; clear BK267; clear HB; have BK266 := n0_; have BK267 := n1_; have HB := n2_; clear n0_ n1_ n2_; (try clear hb); (try clear hb2); (try clear hk); (try clear hi); have hcz14_0 : w13.cell? ⟨gb267, 0, none⟩ = some (.int .i64 a1_0) := (blk_cell BK267.out 0).trans rfl; have hcz14_1 : w13.cell? ⟨gb267, 1, none⟩ = some (.bool a1_1) := (blk_cell BK267.out 1).trans rfl; have hfz14_0 := blk_frozen BK267.out 0; have hfz14_1 := blk_frozen BK267.out 1; have hcz15_0 : w13.cell? ⟨gb266, 0, none⟩ = some (.int .i64 a0_0) := (blk_cell BK266.out 0).trans rfl; have hcz15_1 : w13.cell? ⟨gb266, 1, none⟩ = some (.bool a0_1) := (blk_cell BK266.out 1).trans rfl; have hfz15_0 := blk_frozen BK266.out 0; have hfz15_1 := blk_frozen BK266.out 1))
   go_ret2
   exact ⟨by first | rfl | (simp [errW_none, errW_some] <;> rfl) | (simp [*, errW_none, errW_some] <;> rfl), bu HB.out⟩
  ·replace c6 := Bool.eq_false_iff.mpr c6
   subst c6
   have H1 : (some (0, false)) = some (r1, r2) := by rw [if_neg (show ¬ (false = true) by decide)] at H; exact H
   clear H
   have H := H1
   clear H1
   simp only [Option.some.injEq, Prod.mk.injEq] at H
   obtain ⟨rfl, rfl⟩ := H
   go_enter Tryd.func156, Tryd.ntmps156
   go_wp2_with (first | ((with_reducible refine gate_dst (N := 2) rfl ?_); refine box_event ?hg (N := 2) ?hd (cs := #[.int .i64 a0_0, .bool a0_1]) (t := 30) ?hr ?_; (case hd => rfl); (case hg => rfl); (case hr => first | (go_simp; done) | (go_simp; rfl)); intro gb266 hg w16 hbox hb; have n0_ := am (below_step (bu HB.out) hb); have n1_ := am (hbox); have n2_ := am ((by rw [hg]; exact (below_size (bu HB.out)) : w.heap.size ≤ gb266)); have n3_ := am ((by rw [hg]; exact (below_size (bu HB.out)) : w.heap.size ≤ gb266)); clear HB; have HB := n0_; have BK266 := n1_; have GW266 := n2_; have GE266 := n3_; clear n0_ n1_ n2_ n3_; clear hb hbox hg) | ((with_reducible refine gate_dst (N := 3) rfl ?_); refine box_event ?hg (N := 3) ?hd (cs := #[.int .i64 a1_0, .bool a1_1]) (t := 30) ?hr ?_; (case hd => rfl); (case hg => rfl); (case hr => first | (go_simp; done) | (go_simp; rfl)); intro gb267 hg w17 hbox hb; have n0_ := am (blk_below (g := gb266) (o := .cells #[.int .i64 a0_0, .bool a0_1] 30 (0, 0)) (gu BK266.out) hb); have n1_ := am (below_step (bu HB.out) hb); have n2_ := am (hbox); have n3_ := am ((by rw [hg]; exact (below_size (bu HB.out)) : w.heap.size ≤ gb267)); have n4_ := am ((by rw [hg]; exact (below_size (bu HB.out)) : w.heap.size ≤ gb267)); have n5_ := am ((by rw [hg]; exact Nat.ne_of_lt (blk_lt (g := gb266) (o := .cells #[.int .i64 a0_0, .bool a0_1] 30 (0, 0)) (gu BK266.out)) : gb266 ≠ gb267)); have n6_ := am ((by rw [hg]; exact Nat.ne_of_gt (blk_lt (g := gb266) (o := .cells #[.int .i64 a0_0, .bool a0_1] 30 (0, 0)) (gu BK266.out)) : gb267 ≠ gb266)); clear BK266; clear HB; have BK266 := n0_; have HB := n1_; have BK267 := n2_; have GW267 := n3_; have GE267 := n4_; have NB266_267 := n5_; have NB267_266 := n6_; clear n0_ n1_ n2_ n3_ n4_ n5_ n6_; clear hb hbox hg; have hnb18 := NB266_267.out; have hnc18 := NB267_266.out; have hcz19_0 : w17.cell? ⟨gb266, 0, none⟩ = some (.int .i64 a0_0) := (blk_cell BK266.out 0).trans rfl; have hcz19_1 : w17.cell? ⟨gb266, 1, none⟩ = some (.bool a0_1) := (blk_cell BK266.out 1).trans rfl; have hfz19_0 := blk_frozen BK266.out 0; have hfz19_1 := blk_frozen BK266.out 1) | ((with_reducible refine gate_callee (f := 130) rfl ?_); refine goesL_ (some 7) rfl rfl Tryd.func130 (by kernel_rfl) rfl #[.agg #[.int .i64 a0_0, .bool a0_1]] rfl (by (try simp only [List.map_toArray, List.map_cons, List.map_nil]); first | done | rfl | (simp only [List.length_drop, List.length_take]; rfl)) ?_; (with_reducible refine (spec_ToneValid.calls a0_0 a0_1 true _ A3.out).mono ?_); rintro e w20 ⟨rfl, hb⟩; refine ⟨_, rfl, ?_⟩; have n0_ := am (blk_below (g := gb266) (o := .cells #[.int .i64 a0_0, .bool a0_1] 30 (0, 0)) (gu BK266.out) hb); have n1_ := am (blk_below (g := gb267) (o := .cells #[.int .i64 a1_0, .bool a1_1] 30 (0, 0)) (gu BK267.out) hb); have n2_ := am (below_step (bu HB.out) hb); clear BK266; clear BK267; clear HB; have BK266 := n0_; have BK267 := n1_; have HB := n2_; clear n0_ n1_ n2_; (try clear hb); (try clear hb2); (try clear hk); (try clear hi); have hcz21_0 : w20.cell? ⟨gb267, 0, none⟩ = some (.int .i64 a1_0) := (blk_cell BK267.out 0).trans rfl; have hcz21_1 : w20.cell? ⟨gb267, 1, none⟩ = some (.bool a1_1) := (blk_cell BK267.out 1).trans rfl; have hfz21_0 := blk_frozen BK267.out 0; have hfz21_1 := blk_frozen BK267.out 1) | (go_at_call 130; (with_reducible refine (spec_ToneValid.calls a1_0 a1_1 false _ A5.out).mono ?_); rintro e w22 ⟨rfl, hb⟩; have n0_ := am (blk_below (g := gb266) (o := .cells #[.int .i64 a0_0, .bool a0_1] 30 (0, 0)) (gu BK266.out) hb); have n1_ := am (blk_below (g := gb267) (o := .cells #[.int .i64 a1_0, .bool a1_1] 30 (0, 0)) (gu BK267.out) hb); have n2_ := am (below_step (bu HB.out) hb); clear BK266; clear BK267; clear HB; have BK266 := n0_; have BK267 := n1_; have HB := n2_; clear n0_ n1_ n2_; (try clear hb); (try clear hb2); (try clear hk); (try clear hi)))
   go_ret2
   exact ⟨by first | rfl | (simp [errW_none, errW_some] <;> rfl) | (simp [*, errW_none, errW_some] <;> rfl), bu HB.out⟩
 ·replace c4 := Bool.eq_false_iff.mpr c4
  subst c4
  have H1 : (some (0, false)) = some (r1, r2) := by rw [if_neg (show ¬ (false = true) by decide)] at H; exact H
  clear H
  have H := H1
  clear H1
  simp only [Option.some.injEq, Prod.mk.injEq] at H
  obtain ⟨rfl, rfl⟩ := H
  go_enter Tryd.func156, Tryd.ntmps156
  go_wp2_with (first | ((with_reducible refine gate_dst (N := 2) rfl ?_); refine box_event ?hg (N := 2) ?hd (cs := #[.int .i64 a0_0, .bool a0_1]) (t := 30) ?hr ?_; (case hd => rfl); (case hg => rfl); (case hr => first | (go_simp; done) | (go_simp; rfl)); intro gb266 hg w23 hbox hb; have n0_ := am (below_step (bu HB.out) hb); have n1_ := am (hbox); have n2_ := am ((by rw [hg]; exact (below_size (bu HB.out)) : w.heap.size ≤ gb266)); have n3_ := am ((by rw [hg]; exact (below_size (bu HB.out)) : w.heap.size ≤ gb266)); clear HB; have HB := n0_; have BK266 := n1_; have GW266 := n2_; have GE266 := n3_; clear n0_ n1_ n2_ n3_; clear hb hbox hg) | ((with_reducible refine gate_dst (N := 3) rfl ?_); refine box_event ?hg (N := 3) ?hd (cs := #[.int .i64 a1_0, .bool a1_1]) (t := 30) ?hr ?_; (case hd => rfl); (case hg => rfl); (case hr => first | (go_simp; done) | (go_simp; rfl)); intro gb267 hg w24 hbox hb; have n0_ := am (blk_below (g := gb266) (o := .cells #[.int .i64 a0_0, .bool a0_1] 30 (0, 0)) (gu BK266.out) hb); have n1_ := am (below_step (bu HB.out) hb); have n2_ := am (hbox); have n3_ := am ((by rw [hg]; exact (below_size (bu HB.out)) : w.heap.size ≤ gb267)); have n4_ := am ((by rw [hg]; exact (below_size (bu HB.out)) : w.heap.size ≤ gb267)); have n5_ := am ((by rw [hg]; exact Nat.ne_of_lt (blk_lt (g := gb266) (o := .cells #[.int .i64 a0_0, .bool a0_1] 30 (0, 0)) (gu BK266.out)) : gb266 ≠ gb267)); have n6_ := am ((by rw [hg]; exact Nat.ne_of_gt (blk_lt (g := gb266) (o := .cells #[.int .i64 a0_0, .bool a0_1] 30 (0, 0)) (gu BK266.out)) : gb267 ≠ gb266)); clear BK266; clear HB; have BK266 := n0_; have HB := n1_; have BK267 := n2_; have GW267 := n3_; have GE267 := n4_; have NB266_267 := n5_; have NB267_266 := n6_; clear n0_ n1_ n2_ n3_ n4_ n5_ n6_; clear hb hbox hg; have hnb25 := NB266_267.out; have hnc25 := NB267_266.out; have hcz26_0 : w24.cell? ⟨gb266, 0, none⟩ = some (.int .i64 a0_0) := (blk_cell BK266.out 0).trans rfl; have hcz26_1 : w24.cell? ⟨gb266, 1, none⟩ = some (.bool a0_1) := (blk_cell BK266.out 1).trans rfl; have hfz26_0 := blk_frozen BK266.out 0; have hfz26_1 := blk_frozen BK266.out 1) | ((with_reducible refine gate_callee (f := 130) rfl ?_); refine goesL_ (some 7) rfl rfl Tryd.func130 (by kernel_rfl) rfl #[.agg #[.int .i64 a0_0, .bool a0_1]] rfl (by (try simp only [List.map_toArray, List.map_cons, List.map_nil]); first | done | rfl | (simp only [List.length_drop, List.length_take]; rfl)) ?_; (with_reducible refine (spec_ToneValid.calls a0_0 a0_1 false _ A3.out).mono ?_); rintro e w27 ⟨rfl, hb⟩; refine ⟨_, rfl, ?_⟩; have n0_ := am (blk_below (g := gb266) (o := .cells #[.int .i64 a0_0, .bool a0_1] 30 (0, 0)) (gu BK266.out) hb); have n1_ := am (blk_below (g := gb267) (o := .cells #[.int .i64 a1_0, .bool a1_1] 30 (0, 0)) (gu BK267.out) hb); have n2_ := am (below_step (bu HB.out) hb); clear BK266; clear BK267; clear HB; have BK266 := n0_; have BK267 := n1_; have HB := n2_; clear n0_ n1_ n2_; (try clear hb); (try clear hb2); (try clear hk); (try clear hi)))
  go_ret2
  exact ⟨by first | rfl | (simp [errW_none, errW_some] <;> rfl) | (simp [*, errW_none, errW_some] <;> rfl), bu HB.out⟩

/-! ### spec_l1Quality: function 157 -/
mutual
def spec_l1Quality.j0 : Nat → Int → Int → Bool → Option (ByteArray)
 | 0, _, _, _ => none
 | k + 1, x1, x5, x6 => if x1 < x5 then (some (⟨#[100]⟩ : ByteArray)) else (if x1 = x5 then (spec_l1Quality.j1 k x1 x5 x6 x6) else (spec_l1Quality.j1 k x1 x5 x6 false))
def spec_l1Quality.j1 : Nat → Int → Int → Bool → Bool → Option (ByteArray)
 | 0, _, _, _, _ => none
 | k + 1, x1, x5, x6, x33 => if x33 = true then (some (⟨#[112]⟩ : ByteArray)) else (if x1 = x5 then (some (⟨#[115]⟩ : ByteArray)) else (if x1 = (wrap64 (x5 + 1)) then (if x6 = true then (some (⟨#[97]⟩ : ByteArray)) else (some (⟨#[103]⟩ : ByteArray))) else (some (⟨#[97]⟩ : ByteArray))))
end
def spec_l1Quality.f (k : Nat) (a0 : Int) (a1 : Int) : Option (ByteArray) := (some (([0, 1, 3, 5, 7, 8, 10] : List Int) : List Int)).bind fun y270 => (if 0 ≤ (Int.tmod a0 7) then (if (Int.tmod a0 7) < (y270.length : Int) then (if (Int.tmod a0 7) = 0 then (spec_l1Quality.j0 k a1 (wrap64 ((rd y270 (Int.tmod a0 7)) + (wrap64 (12 * (wrap64 (Int.tdiv a0 7)))))) true) else (if (Int.tmod a0 7) = 3 then (spec_l1Quality.j0 k a1 (wrap64 ((rd y270 (Int.tmod a0 7)) + (wrap64 (12 * (wrap64 (Int.tdiv a0 7)))))) true) else (spec_l1Quality.j0 k a1 (wrap64 ((rd y270 (Int.tmod a0 7)) + (wrap64 (12 * (wrap64 (Int.tdiv a0 7)))))) ((Int.tmod a0 7) == 4)))) else (none)) else (none))
theorem spec_l1Quality.mono_l : ∀ k, (∀ y0 y1 y2, LeO (spec_l1Quality.j0 k y0 y1 y2) (spec_l1Quality.j0 (k + 1) y0 y1 y2)) ∧ (∀ y0 y1 y2 y3, LeO (spec_l1Quality.j1 k y0 y1 y2 y3) (spec_l1Quality.j1 (k + 1) y0 y1 y2 y3))
 | 0 => ⟨fun _ _ _ r h => by simp [spec_l1Quality.j0] at h, fun _ _ _ _ r h => by simp [spec_l1Quality.j1] at h⟩
 | k + 1 => by
  obtain ⟨ih0, ih1⟩ := spec_l1Quality.mono_l k
  refine ⟨?_, ?_⟩
  ·intro y0 y1 y2
   unfold spec_l1Quality.j0
   repeat' first
   | (with_reducible exact ih0 _ _ _)
   | (with_reducible exact ih1 _ _ _ _)
   | (with_reducible exact LeO.refl _)
   | (with_reducible exact LeO.none _)
   | (with_reducible refine LeO.ite ?_ ?_)
   | (with_reducible refine LeO.bind ?_ (fun _ => ?_))
   | exact ih0 _ _ _
   | exact ih1 _ _ _ _
   | exact LeO.none _
   | refine LeO.ite ?_ ?_
   | refine LeO.bind ?_ (fun _ => ?_)
  ·intro y0 y1 y2 y3
   unfold spec_l1Quality.j1
   repeat' first
   | (with_reducible exact ih0 _ _ _)
   | (with_reducible exact ih1 _ _ _ _)
   | (with_reducible exact LeO.refl _)
   | (with_reducible exact LeO.none _)
   | (with_reducible refine LeO.ite ?_ ?_)
   | (with_reducible refine LeO.bind ?_ (fun _ => ?_))
   | exact ih0 _ _ _
   | exact ih1 _ _ _ _
   | exact LeO.none _
   | refine LeO.ite ?_ ?_
   | refine LeO.bind ?_ (fun _ => ?_)
theorem spec_l1Quality.mono : ∀ a0 a1 k, LeO (spec_l1Quality.f k a0 a1) (spec_l1Quality.f (k + 1) a0 a1) := by
 intro a0 a1 k
 obtain ⟨ih0, ih1⟩ := spec_l1Quality.mono_l k
 unfold spec_l1Quality.f
 repeat' first
   | (with_reducible exact ih0 _ _ _)
   | (with_reducible exact ih1 _ _ _ _)
   | (with_reducible exact LeO.refl _)
   | (with_reducible exact LeO.none _)
   | (with_reducible refine LeO.ite ?_ ?_)
   | (with_reducible refine LeO.bind ?_ (fun _ => ?_))
   | exact ih0 _ _ _
   | exact ih1 _ _ _ _
   | exact LeO.none _
   | refine LeO.ite ?_ ?_
   | refine LeO.bind ?_ (fun _ => ?_)
set_option maxHeartbeats 8000000 in
set_option maxRecDepth 100000 in
theorem spec_l1Quality.calls (k : Nat) (a0 : Int) (a1 : Int) (r : ByteArray) (w : World) (h : spec_l1Quality.f k a0 a1 = some r) :
  Calls Tryd.prog 157 #[.int .i64 a0, .int .i64 a1] w fun e w' => e = .returned (.string r) ∧ Below w.heap.size w w' := by
 have HB := am (Below.refl w.heap.size w)
 have H : ((some (([0, 1, 3, 5, 7, 8, 10] : List Int) : List Int)).bind fun y270 => (if 0 ≤ (Int.tmod a0 7) then (if (Int.tmod a0 7) < (y270.length : Int) then (if (Int.tmod a0 7) = 0 then (spec_l1Quality.j0 k a1 (wrap64 ((rd y270 (Int.tmod a0 7)) + (wrap64 (12 * (wrap64 (Int.tdiv a0 7)))))) true) else (if (Int.tmod a0 7) = 3 then (spec_l1Quality.j0 k a1 (wrap64 ((rd y270 (Int.tmod a0 7)) + (wrap64 (12 * (wrap64 (Int.tdiv a0 7)))))) true) else (spec_l1Quality.j0 k a1 (wrap64 ((rd y270 (Int.tmod a0 7)) + (wrap64 (12 * (wrap64 (Int.tdiv a0 7)))))) ((Int.tmod a0 7) == 4)))) else (none)) else (none))) = some r := h
 clear h
 obtain ⟨y270, hy270⟩ : ∃ y_ : List Int, y_ = (([0, 1, 3, 5, 7, 8, 10] : List Int)) := ⟨_, rfl⟩
 replace H : (if 0 ≤ (Int.tmod a0 7) then (if (Int.tmod a0 7) < (y270.length : Int) then (if (Int.tmod a0 7) = 0 then (spec_l1Quality.j0 k a1 (wrap64 ((rd y270 (Int.tmod a0 7)) + (wrap64 (12 * (wrap64 (Int.tdiv a0 7)))))) true) else (if (Int.tmod a0 7) = 3 then (spec_l1Quality.j0 k a1 (wrap64 ((rd y270 (Int.tmod a0 7)) + (wrap64 (12 * (wrap64 (Int.tdiv a0 7)))))) true) else (spec_l1Quality.j0 k a1 (wrap64 ((rd y270 (Int.tmod a0 7)) + (wrap64 (12 * (wrap64 (Int.tdiv a0 7)))))) ((Int.tmod a0 7) == 4)))) else (none)) else (none)) = some r := by first | (rw [hy270]; with_reducible exact H) | (have H2_ := (Option.bind_some _ _).symm.trans H; rw [hy270]; with_reducible exact H2_) | (have H2_ := (Option.bind_some _ _).symm.trans H; with_reducible exact H2_) | with_reducible exact H | (rw [hy270]; exact H) | exact H
 have Ny270 := am hy270
 clear hy270
 obtain ⟨ji3, hji3⟩ : ∃ j_ : Int, (Int.tmod a0 7) = j_ := ⟨_, rfl⟩
 replace H : (if 0 ≤ (ji3) then (if (ji3) < (y270.length : Int) then (if (ji3) = 0 then (spec_l1Quality.j0 k a1 (wrap64 ((rd y270 (ji3)) + (wrap64 (12 * (wrap64 (Int.tdiv a0 7)))))) true) else (if (ji3) = 3 then (spec_l1Quality.j0 k a1 (wrap64 ((rd y270 (ji3)) + (wrap64 (12 * (wrap64 (Int.tdiv a0 7)))))) true) else (spec_l1Quality.j0 k a1 (wrap64 ((rd y270 (ji3)) + (wrap64 (12 * (wrap64 (Int.tdiv a0 7)))))) ((ji3) == 4)))) else (none)) else (none)) = some r := by first | (rw [hji3] at H; exact H) | (simp only [hji3] at H ⊢; exact H)
 by_cases c4 : 0 ≤ (ji3)
 ·rw [if_pos c4] at H
  have c4b0 : decide (0 ≤ (ji3)) = true := decide_eq_true c4
  clear c4
  by_cases c5 : (ji3) < (y270.length : Int)
  ·rw [if_pos c5] at H
   have c5b0 : decide ((ji3) < (y270.length : Int)) = true := decide_eq_true c5
   clear c5
   have HC6 := am H
   clear H
   go_enter Tryd.func157, Tryd.ntmps157
   go_upto_region 2 with (first | ((with_reducible refine gate_dst (N := 7) rfl ?_); refine Kd.R_lit (Kd.int .i64) _ 3 ?hg (N := 7) ?hd (xs := ([0, 1, 3, 5, 7, 8, 10] : List Int)) (inner := [.int .i64 0, .int .i64 1, .int .i64 3, .int .i64 5, .int .i64 7, .int .i64 8, .int .i64 10]) (ok := fun _ => True) (okp := fun _ => True) ?hr ?hp (fun _ hk => hk) trivial (Below.refl _ _) (Nat.le_refl _) (by simp) ?_; (case hd => rfl); (case hg => rfl); (case hr => first | (go_simp; done) | (go_simp; rfl)); (case hp => exact (Reps.one (show Kd.M (Kd.int .i64) _ _ _ 0 [.int .i64 0] from rfl) (Reps.one (show Kd.M (Kd.int .i64) _ _ _ 1 [.int .i64 1] from rfl) (Reps.one (show Kd.M (Kd.int .i64) _ _ _ 3 [.int .i64 3] from rfl) (Reps.one (show Kd.M (Kd.int .i64) _ _ _ 5 [.int .i64 5] from rfl) (Reps.one (show Kd.M (Kd.int .i64) _ _ _ 7 [.int .i64 7] from rfl) (Reps.one (show Kd.M (Kd.int .i64) _ _ _ 8 [.int .i64 8] from rfl) (Reps.one (show Kd.M (Kd.int .i64) _ _ _ 10 [.int .i64 10] from rfl) (Reps.none _ _))))))))); intro v271 w7 ho8 hb hg_ hnew_; clear hg_ hnew_; (first | rw [← Ny270.out] at ho8 | (simp only [Int.reduceToNat] at ho8; rw [← Ny270.out] at ho8)); have n0_ := am (Kd.R_lower ho8 (below_size (bu HB.out))); have n1_ := am (below_step (bu HB.out) hb); clear HB; have HO272 := n0_; have HB := n1_; clear n0_ n1_; clear hb ho8; obtain ⟨Ao9, co9, eo9⟩ := Kd.R_slice HO272.out; subst eo9; have p273 : 0 ≤ ((ji3) : Int) := od; have q273 : (ji3) < (y270.length : Int) := od; obtain ⟨ad273, e273, hx273_0⟩ := Kd.at_int (Kd.R_reads' HO272.out).2.2 (ji3) p273 q273; cases e273; replace p273 := eq_true p273; replace q273 := eq_true q273))
   (try simp only [Act.put, sA, sZ, sS])
   go_cut [6] (fun v6 wc => ∃ (kq : Nat) (x6_5 : Bool), v6 = .bool x6_5 ∧ Aside0 (spec_l1Quality.j0 kq a1 (wrap64 ((rd y270 (ji3)) + (wrap64 (12 * (wrap64 (Int.tdiv a0 7)))))) x6_5 = some r) ∧ Aside0 (kq ≤ k) ∧ Aside0 (Below w.heap.size w wc))
   case first =>
    have H := HC6.out
    clear HC6
    by_cases c10 : (ji3) = 0
    ·rw [if_pos c10] at H
     have c10b0 : ((ji3) == 0) = true := beq_iff_eq.mpr c10
     have c10b1 : ((ji3) != 0) = false := bne_eq_false_iff_eq.mpr c10
     clear c10
     (first | rw [c10b0] | (simp only [i64_w, i32_w]; rw [c10b0]) | skip)
     have H' := am H
     clear H
     go_wp2
     go_meet
     case rel => exact ⟨_, (true), (by first | rfl | (simp; done) | (simp [*]; done)), H', ⟨by first | omega | exact Nat.le_refl _⟩, ⟨bu HB.out⟩⟩
    ·rw [if_neg c10] at H
     have c10b0 : ((ji3) == 0) = false := beq_eq_false_iff_ne.mpr c10
     have c10b1 : ((ji3) != 0) = true := bne_iff_ne.mpr c10
     (first | rw [c10b0] | (simp only [i64_w, i32_w]; rw [c10b0]) | skip)
     by_cases c11 : (ji3) = 3
     ·rw [if_pos c11] at H
      have c11b0 : ((ji3) == 3) = true := beq_iff_eq.mpr c11
      have c11b1 : ((ji3) != 3) = false := bne_eq_false_iff_eq.mpr c11
      clear c11
      have H' := am H
      clear H
      go_wp2
      go_meet
      case rel => exact ⟨_, (true), (by first | rfl | (simp; done) | (simp [*]; done)), H', ⟨by first | omega | exact Nat.le_refl _⟩, ⟨bu HB.out⟩⟩
     ·rw [if_neg c11] at H
      have c11b0 : ((ji3) == 3) = false := beq_eq_false_iff_ne.mpr c11
      have c11b1 : ((ji3) != 3) = true := bne_iff_ne.mpr c11
      have H' := am H
      clear H
      go_wp2
      go_meet
      case rel => exact ⟨_, (((ji3) == 4)), (by first | rfl | (simp; done) | (simp only [← hji3] <;> (first | rfl | simp)) | (simp [*]; done)), H', ⟨by first | omega | exact Nat.le_refl _⟩, ⟨bu HB.out⟩⟩
   case rest =>
    clear HC6
    try clear c1
    try clear p2
    try clear q2
    try clear hx2
    try clear c4
    try clear c4b0
    try clear c5
    try clear c5b0
    try clear p6
    try clear c10
    try clear c10b0
    try clear c10b1
    try clear c11
    try clear c11b0
    try clear c11b1
    try clear hx273_0
    try clear p273
    try clear q273
    obtain ⟨kq, x6_5, rfl, HA, HJ5, HB⟩ := hcut
    cases kq with
    | zero => exact absurd HA.out (by simp [spec_l1Quality.j0])
    | succ kj5 =>
     have H := HA.out
     clear HA
     simp only [spec_l1Quality.j0] at H
     by_cases c12 : a1 < (wrap64 ((rd y270 (ji3)) + (wrap64 (12 * (wrap64 (Int.tdiv a0 7))))))
     ·rw [if_pos c12] at H
      have c12b0 : decide (a1 < (wrap64 ((rd y270 (ji3)) + (wrap64 (12 * (wrap64 (Int.tdiv a0 7))))))) = true := decide_eq_true c12
      clear c12
      obtain rfl := Option.some.inj H
      go_wp2
      go_ret
      exact ⟨by first | rfl | (simp [errW_none, errW_some] <;> rfl) | (simp only [← hji3]; first | rfl | (simp [errW_none, errW_some] <;> rfl)) | (simp [*, errW_none, errW_some] <;> rfl), bu HB.out⟩
     ·rw [if_neg c12] at H
      have c12b0 : decide (a1 < (wrap64 ((rd y270 (ji3)) + (wrap64 (12 * (wrap64 (Int.tdiv a0 7))))))) = false := decide_eq_false c12
      clear c12
      have HC13 := am H
      clear H
      go_upto_region 5 with (fail)
      go_cut [33] (fun v33 wc => ∃ (kq : Nat) (x33_12 : Bool), v33 = .bool x33_12 ∧ Aside0 (spec_l1Quality.j1 kq a1 (wrap64 ((rd y270 (ji3)) + (wrap64 (12 * (wrap64 (Int.tdiv a0 7)))))) x6_5 x33_12 = some r) ∧ Aside0 (kq ≤ kj5) ∧ Aside0 (Below w.heap.size w wc))
      case first =>
       have H := HC13.out
       clear HC13
       by_cases c14 : a1 = (wrap64 ((rd y270 (ji3)) + (wrap64 (12 * (wrap64 (Int.tdiv a0 7))))))
       ·rw [if_pos c14] at H
        have c14b0 : (a1 == (wrap64 ((rd y270 (ji3)) + (wrap64 (12 * (wrap64 (Int.tdiv a0 7))))))) = true := beq_iff_eq.mpr c14
        have c14b1 : (a1 != (wrap64 ((rd y270 (ji3)) + (wrap64 (12 * (wrap64 (Int.tdiv a0 7))))))) = false := bne_eq_false_iff_eq.mpr c14
        clear c14
        (first | rw [c14b0] | (simp only [i64_w, i32_w]; rw [c14b0]) | skip)
        have H' := am H
        clear H
        go_wp2
        go_meet
        case rel => exact ⟨_, (x6_5), (by first | rfl | (simp; done) | (simp [*]; done)), H', ⟨by have := HJ5.out; first | omega | exact Nat.le_refl _⟩, ⟨bu HB.out⟩⟩
       ·rw [if_neg c14] at H
        have c14b0 : (a1 == (wrap64 ((rd y270 (ji3)) + (wrap64 (12 * (wrap64 (Int.tdiv a0 7))))))) = false := beq_eq_false_iff_ne.mpr c14
        have c14b1 : (a1 != (wrap64 ((rd y270 (ji3)) + (wrap64 (12 * (wrap64 (Int.tdiv a0 7))))))) = true := bne_iff_ne.mpr c14
        (first | rw [c14b0] | (simp only [i64_w, i32_w]; rw [c14b0]) | skip)
        have H' := am H
        clear H
        go_wp2
        go_meet
        case rel => exact ⟨_, (false), (by first | rfl | (simp; done) | (simp [*]; done)), H', ⟨by have := HJ5.out; first | omega | exact Nat.le_refl _⟩, ⟨bu HB.out⟩⟩
      case rest =>
       clear HC13
       try clear c1
       try clear p2
       try clear q2
       try clear hx2
       try clear c4
       try clear c4b0
       try clear c5
       try clear c5b0
       try clear p6
       try clear c10
       try clear c10b0
       try clear c10b1
       try clear c11
       try clear c11b0
       try clear c11b1
       try clear c12
       try clear c12b0
       try clear c14
       try clear c14b0
       try clear c14b1
       try clear hx273_0
       try clear p2
       try clear p273
       try clear p6
       try clear q2
       try clear q273
       obtain ⟨kq, x33_12, rfl, HA, HJ12, HB⟩ := hcut
       cases kq with
       | zero => exact absurd HA.out (by simp [spec_l1Quality.j1])
       | succ kj12 =>
        have H := HA.out
        clear HA
        simp only [spec_l1Quality.j1] at H
        by_cases c15 : x33_12 = true
        ·subst c15
         have H1 : (some (⟨#[112]⟩ : ByteArray)) = some r := by rw [if_pos rfl] at H; exact H
         clear H
         have H := H1
         clear H1
         obtain rfl := Option.some.inj H
         go_wp2
         go_ret
         exact ⟨by first | rfl | (simp [errW_none, errW_some] <;> rfl) | (simp only [← hji3]; first | rfl | (simp [errW_none, errW_some] <;> rfl)) | (simp [*, errW_none, errW_some] <;> rfl), bu HB.out⟩
        ·replace c15 := Bool.eq_false_iff.mpr c15
         subst c15
         have H1 : (if a1 = (wrap64 ((rd y270 (ji3)) + (wrap64 (12 * (wrap64 (Int.tdiv a0 7)))))) then (some (⟨#[115]⟩ : ByteArray)) else (if a1 = (wrap64 ((wrap64 ((rd y270 (ji3)) + (wrap64 (12 * (wrap64 (Int.tdiv a0 7)))))) + 1)) then (if x6_5 = true then (some (⟨#[97]⟩ : ByteArray)) else (some (⟨#[103]⟩ : ByteArray))) else (some (⟨#[97]⟩ : ByteArray)))) = some r := by rw [if_neg (show ¬ (false = true) by decide)] at H; exact H
         clear H
         have H := H1
         clear H1
         by_cases c16 : a1 = (wrap64 ((rd y270 (ji3)) + (wrap64 (12 * (wrap64 (Int.tdiv a0 7))))))
         ·rw [if_pos c16] at H
          have c16b0 : (a1 == (wrap64 ((rd y270 (ji3)) + (wrap64 (12 * (wrap64 (Int.tdiv a0 7))))))) = true := beq_iff_eq.mpr c16
          have c16b1 : (a1 != (wrap64 ((rd y270 (ji3)) + (wrap64 (12 * (wrap64 (Int.tdiv a0 7))))))) = false := bne_eq_false_iff_eq.mpr c16
          clear c16
          obtain rfl := Option.some.inj H
          go_wp2
          go_ret
          exact ⟨by first | rfl | (simp [errW_none, errW_some] <;> rfl) | (simp only [← hji3]; first | rfl | (simp [errW_none, errW_some] <;> rfl)) | (simp [*, errW_none, errW_some] <;> rfl), bu HB.out⟩
         ·rw [if_neg c16] at H
          have c16b0 : (a1 == (wrap64 ((rd y270 (ji3)) + (wrap64 (12 * (wrap64 (Int.tdiv a0 7))))))) = false := beq_eq_false_iff_ne.mpr c16
          have c16b1 : (a1 != (wrap64 ((rd y270 (ji3)) + (wrap64 (12 * (wrap64 (Int.tdiv a0 7))))))) = true := bne_iff_ne.mpr c16
          by_cases c17 : a1 = (wrap64 ((wrap64 ((rd y270 (ji3)) + (wrap64 (12 * (wrap64 (Int.tdiv a0 7)))))) + 1))
          ·rw [if_pos c17] at H
           have c17b0 : (a1 == (wrap64 ((wrap64 ((rd y270 (ji3)) + (wrap64 (12 * (wrap64 (Int.tdiv a0 7)))))) + 1))) = true := beq_iff_eq.mpr c17
           have c17b1 : (a1 != (wrap64 ((wrap64 ((rd y270 (ji3)) + (wrap64 (12 * (wrap64 (Int.tdiv a0 7)))))) + 1))) = false := bne_eq_false_iff_eq.mpr c17
           clear c17
           by_cases c18 : x6_5 = true
           ·subst c18
            have H1 : (some (⟨#[97]⟩ : ByteArray)) = some r := by rw [if_pos rfl] at H; exact H
            clear H
            have H := H1
            clear H1
            obtain rfl := Option.some.inj H
            go_wp2
            go_ret
            exact ⟨by first | rfl | (simp [errW_none, errW_some] <;> rfl) | (simp only [← hji3]; first | rfl | (simp [errW_none, errW_some] <;> rfl)) | (simp [*, errW_none, errW_some] <;> rfl), bu HB.out⟩
           ·replace c18 := Bool.eq_false_iff.mpr c18
            subst c18
            have H1 : (some (⟨#[103]⟩ : ByteArray)) = some r := by rw [if_neg (show ¬ (false = true) by decide)] at H; exact H
            clear H
            have H := H1
            clear H1
            obtain rfl := Option.some.inj H
            go_wp2
            go_ret
            exact ⟨by first | rfl | (simp [errW_none, errW_some] <;> rfl) | (simp only [← hji3]; first | rfl | (simp [errW_none, errW_some] <;> rfl)) | (simp [*, errW_none, errW_some] <;> rfl), bu HB.out⟩
          ·rw [if_neg c17] at H
           have c17b0 : (a1 == (wrap64 ((wrap64 ((rd y270 (ji3)) + (wrap64 (12 * (wrap64 (Int.tdiv a0 7)))))) + 1))) = false := beq_eq_false_iff_ne.mpr c17
           have c17b1 : (a1 != (wrap64 ((wrap64 ((rd y270 (ji3)) + (wrap64 (12 * (wrap64 (Int.tdiv a0 7)))))) + 1))) = true := bne_iff_ne.mpr c17
           obtain rfl := Option.some.inj H
           go_wp2
           go_ret
           exact ⟨by first | rfl | (simp [errW_none, errW_some] <;> rfl) | (simp only [← hji3]; first | rfl | (simp [errW_none, errW_some] <;> rfl)) | (simp [*, errW_none, errW_some] <;> rfl), bu HB.out⟩
  ·rw [if_neg c5] at H
   exact absurd H (by simp)
 ·rw [if_neg c4] at H
  exact absurd H (by simp)

end Go.Proofs.YtcndojoghmblaaaDoor.GE
