-- Made by this session's gprint.py out of the translation. Not trusted: Lean checks it.
import Derived.Test.YtjnkmckklmabcaaGreatDoorXMx0
import Derived.Test.YtjnkmckklmabcaaGreatDoorXMx7
namespace Go.Proofs.YtjnkmckklmabcaaGreatDoor.XM
open Go.RowKit Go.Proofs.YtjnkmckklmabcaaGreatDoorW.PrintWords Go.Proofs.YtjnkmckklmabcaaGreatDoorW.PrintLast Go.Proofs.YtjnkmckklmabcaaGreatDoorW.PrintMore
attribute [local go_sem] max2_int min2_int max_two min_two max_three min_three max_four min_four   -- for this text's walks alone
set_option linter.unusedVariables false
set_option linter.unusedSimpArgs false

/-! ### spec_DrawMelodyMove: function 22 -/
def spec_DrawMelodyMove.f (k : Nat) (l0 : List Int) : Option ((List (S74)) × Int) := (spec_l6Open.f l0).bind fun bt164 => ((spec_l91Melody.f k bt164.1 bt164.2 5).bind fun bt167 => ((spec_l6Rd_pick.f k bt164.1 bt167.2 20).bind fun bt171 => (if bt171.1 = 0 then ((some (([9223372036854775807, (-9223372036854775808), 0] : List Int) : List Int)).bind fun y173 => ((spec_l6Rd_pick.f k bt164.1 bt171.2 3).bind fun bt176 => (if 0 ≤ bt176.1 then (if bt176.1 < (y173.length : Int) then (some (bt167.1, rd y173 bt176.1)) else (none)) else (none)))) else ((some (([(-7), (-4), (-3), 0, 3, 4, 7, 1, (-1), 2] : List Int) : List Int)).bind fun y179 => ((spec_l6Rd_pick.f k bt164.1 bt171.2 10).bind fun bt182 => (if 0 ≤ bt182.1 then (if bt182.1 < (y179.length : Int) then (some (bt167.1, rd y179 bt182.1)) else (none)) else (none)))))))
def spec_DrawMelodyMove.T4 : Bool × List (List Nat × List Nat) := (true, [([], []), ([], []), ([], []), ([2], [2]), ([1, 3], [1, 3]), ([4], [4]), ([0, 3, 0], [0]), ([5, 6, 0, 1, 2, 3, 4, 5, 6], [5])])
def spec_DrawMelodyMove.B4 : List Nat := [0, 0, 0, 4, 14, 30, 13, 127]
theorem spec_DrawMelodyMove.tab4 : rtab .any (opsOf Tryz.f22 4) = spec_DrawMelodyMove.T4 := by kernel_rfl
theorem spec_DrawMelodyMove.bits4 : waitsOk spec_DrawMelodyMove.T4.2 spec_DrawMelodyMove.B4 = true := by kernel_rfl
def spec_DrawMelodyMove.T5 : Bool × List (List Nat × List Nat) := (true, [([], []), ([], []), ([], []), ([2], [2]), ([1, 3], [1, 3]), ([4], [4]), ([0, 3, 0], [0]), ([5, 6, 0, 1, 2, 3, 4, 5, 6], [5])])
def spec_DrawMelodyMove.B5 : List Nat := [0, 0, 0, 4, 14, 30, 13, 127]
theorem spec_DrawMelodyMove.tab5 : rtab .any (opsOf Tryz.f22 5) = spec_DrawMelodyMove.T5 := by kernel_rfl
theorem spec_DrawMelodyMove.bits5 : waitsOk spec_DrawMelodyMove.T5.2 spec_DrawMelodyMove.B5 = true := by kernel_rfl
set_option maxHeartbeats 8000000 in
set_option maxRecDepth 100000 in
theorem spec_DrawMelodyMove.calls (k : Nat) (A0 : Option Addr) (c0 : Nat) (l0 : List Int) (r1 : List (S74)) (r2 : Int) (w : World) (hr0 : Kd.C (Kd.int .u8) w A0 l0.length l0) (hc0 : l0.length ≤ c0) (h : spec_DrawMelodyMove.f k l0 = some (r1, r2)) :
  Calls Tryz.prog 22 #[.slice A0 l0.length c0] w fun e w' => ∃ v0_ : Value, e = .returned (.tuple #[v0_, .int .i64 r2]) ∧ Kd.R k74 74 w' w.heap.size (fun _ => True) v0_ r1 ∧ Below w.heap.size w w' := by
 have HR0 := am hr0
 have HC0 := am hc0
 clear hr0 hc0
 have HB := am (Below.refl w.heap.size w)
 have H : ((spec_l6Open.f l0).bind fun bt164 => ((spec_l91Melody.f k bt164.1 bt164.2 5).bind fun bt167 => ((spec_l6Rd_pick.f k bt164.1 bt167.2 20).bind fun bt171 => (if bt171.1 = 0 then ((some (([9223372036854775807, (-9223372036854775808), 0] : List Int) : List Int)).bind fun y173 => ((spec_l6Rd_pick.f k bt164.1 bt171.2 3).bind fun bt176 => (if 0 ≤ bt176.1 then (if bt176.1 < (y173.length : Int) then (some (bt167.1, rd y173 bt176.1)) else (none)) else (none)))) else ((some (([(-7), (-4), (-3), 0, 3, 4, 7, 1, (-1), 2] : List Int) : List Int)).bind fun y179 => ((spec_l6Rd_pick.f k bt164.1 bt171.2 10).bind fun bt182 => (if 0 ≤ bt182.1 then (if bt182.1 < (y179.length : Int) then (some (bt167.1, rd y179 bt182.1)) else (none)) else (none)))))))) = some (r1, r2) := h
 clear h
 replace H := Option.bind_eq_some_iff.mp H
 obtain ⟨⟨t164, t165⟩, A20, H⟩ := H
 replace H : ((spec_l91Melody.f k t164 t165 5).bind fun bt167 => ((spec_l6Rd_pick.f k t164 bt167.2 20).bind fun bt171 => (if bt171.1 = 0 then ((some (([9223372036854775807, (-9223372036854775808), 0] : List Int) : List Int)).bind fun y173 => ((spec_l6Rd_pick.f k t164 bt171.2 3).bind fun bt176 => (if 0 ≤ bt176.1 then (if bt176.1 < (y173.length : Int) then (some (bt167.1, rd y173 bt176.1)) else (none)) else (none)))) else ((some (([(-7), (-4), (-3), 0, 3, 4, 7, 1, (-1), 2] : List Int) : List Int)).bind fun y179 => ((spec_l6Rd_pick.f k t164 bt171.2 10).bind fun bt182 => (if 0 ≤ bt182.1 then (if bt182.1 < (y179.length : Int) then (some (bt167.1, rd y179 bt182.1)) else (none)) else (none))))))) = some (r1, r2) := H
 have A2 := am A20
 clear A20
 replace H := Option.bind_eq_some_iff.mp H
 obtain ⟨⟨t167, t170⟩, A30, H⟩ := H
 replace H : ((spec_l6Rd_pick.f k t164 t170 20).bind fun bt171 => (if bt171.1 = 0 then ((some (([9223372036854775807, (-9223372036854775808), 0] : List Int) : List Int)).bind fun y173 => ((spec_l6Rd_pick.f k t164 bt171.2 3).bind fun bt176 => (if 0 ≤ bt176.1 then (if bt176.1 < (y173.length : Int) then (some (t167, rd y173 bt176.1)) else (none)) else (none)))) else ((some (([(-7), (-4), (-3), 0, 3, 4, 7, 1, (-1), 2] : List Int) : List Int)).bind fun y179 => ((spec_l6Rd_pick.f k t164 bt171.2 10).bind fun bt182 => (if 0 ≤ bt182.1 then (if bt182.1 < (y179.length : Int) then (some (t167, rd y179 bt182.1)) else (none)) else (none)))))) = some (r1, r2) := H
 have A3 := am A30
 clear A30
 replace H := Option.bind_eq_some_iff.mp H
 obtain ⟨⟨t171, t172⟩, A40, H⟩ := H
 replace H : (if t171 = 0 then ((some (([9223372036854775807, (-9223372036854775808), 0] : List Int) : List Int)).bind fun y173 => ((spec_l6Rd_pick.f k t164 t172 3).bind fun bt176 => (if 0 ≤ bt176.1 then (if bt176.1 < (y173.length : Int) then (some (t167, rd y173 bt176.1)) else (none)) else (none)))) else ((some (([(-7), (-4), (-3), 0, 3, 4, 7, 1, (-1), 2] : List Int) : List Int)).bind fun y179 => ((spec_l6Rd_pick.f k t164 t172 10).bind fun bt182 => (if 0 ≤ bt182.1 then (if bt182.1 < (y179.length : Int) then (some (t167, rd y179 bt182.1)) else (none)) else (none))))) = some (r1, r2) := H
 have A4 := am A40
 clear A40
 by_cases c5 : t171 = 0
 ·rw [if_pos c5] at H
  have c5b0 : (t171 == 0) = true := beq_iff_eq.mpr c5
  have c5b1 : (t171 != 0) = false := bne_eq_false_iff_eq.mpr c5
  clear c5
  obtain ⟨y173, hy173⟩ : ∃ y_ : List Int, y_ = (([9223372036854775807, (-9223372036854775808), 0] : List Int)) := ⟨_, rfl⟩
  replace H : ((spec_l6Rd_pick.f k t164 t172 3).bind fun bt176 => (if 0 ≤ bt176.1 then (if bt176.1 < (y173.length : Int) then (some (t167, rd y173 bt176.1)) else (none)) else (none))) = some (r1, r2) := by first | (rw [hy173]; with_reducible exact H) | (have H2_ := (Option.bind_some _ _).symm.trans H; rw [hy173]; with_reducible exact H2_) | (have H2_ := (Option.bind_some _ _).symm.trans H; with_reducible exact H2_) | with_reducible exact H | (rw [hy173]; exact H) | exact H
  have Ny173 := am hy173
  clear hy173
  replace H := Option.bind_eq_some_iff.mp H
  obtain ⟨⟨t176, t177⟩, A60, H⟩ := H
  replace H : (if 0 ≤ t176 then (if t176 < (y173.length : Int) then (some (t167, rd y173 t176)) else (none)) else (none)) = some (r1, r2) := H
  have A6 := am A60
  clear A60
  by_cases c7 : 0 ≤ t176
  ·rw [if_pos c7] at H
   have c7b0 : decide (0 ≤ t176) = true := decide_eq_true c7
   clear c7
   by_cases c8 : t176 < (y173.length : Int)
   ·rw [if_pos c8] at H
    have c8b0 : decide (t176 < (y173.length : Int)) = true := decide_eq_true c8
    clear c8
    simp only [Option.some.injEq, Prod.mk.injEq] at H
    obtain ⟨rfl, rfl⟩ := H
    go_enter Tryz.func22, Tryz.ntmps22
    try go_wp2_with (first | ((with_reducible refine gate_callee (f := 36) rfl ?_); refine goesL_ (some 7) rfl rfl Tryz.func36 (by kernel_rfl) rfl #[.slice A0 l0.length c0] rfl (by (try simp only [List.map_toArray, List.map_cons, List.map_nil]); first | done | rfl | (simp only [List.length_drop, List.length_take]; rfl)) ?_; (with_reducible refine (spec_l6Open.calls _ _ l0 t164 t165 w _ ?side1 ?side2 ?side3 A2.out).mono ?_); (case side1 => repeat (first | (with_reducible first | exact HB.out | apply below_alloc | apply pw_below_drewN | apply below_drew1) | exact HB.out)); (case side2 => exact HR0.out); (case side3 => exact HC0.out); rintro e w9 ⟨g166, rfl, hi, hb, hb2⟩; refine ⟨_, rfl, ?_⟩; have n0_ := am (hb); have n1_ := am (hi); clear HB; have HB := n0_; have HI166 := n1_; clear n0_ n1_; (try clear hb); (try clear hb2); (try clear hk); (try clear hi)) | ((with_reducible refine gate_callee (f := 52) rfl ?_); refine goesL_ (some 9) rfl rfl Tryz.func52 (by kernel_rfl) rfl #[.pointer (some ⟨g166, 0, none⟩), .int .i64 5] rfl (by (try simp only [List.map_toArray, List.map_cons, List.map_nil]); first | done | rfl | (simp only [List.length_drop, List.length_take]; rfl)) ?_; (with_reducible refine (spec_l91Melody.calls k g166 t164 t165 5 t167 t170 w _ ?side1 ?side2 A3.out).mono ?_); (case side1 => repeat (first | (with_reducible first | exact HI166.out | apply IsS105.alloc | apply IsS105.drewN | apply IsS105.drew | apply IsS105.set_1) | exact HI166.out)); (case side2 => repeat (first | (with_reducible first | exact HB.out | apply below_alloc | apply pw_below_drewN | apply below_drew1 | refine below_set ?_ (IsS105.ge HI166.out)) | exact HB.out)); rintro e w10 ⟨v168, rfl, ho0, hi, hb, hk⟩; refine ⟨_, rfl, ?_⟩; have n0_ := am (Kd.R_lower ho0 (below_size (by repeat (first | (with_reducible first | exact HB.out | apply below_alloc | apply pw_below_drewN | apply below_drew1 | refine below_set ?_ (IsS105.ge HI166.out)) | exact HB.out)))); have n1_ := am (hb); have n2_ := am (hi); clear HB; clear HI166; have HO169 := n0_; have HB := n1_; have HI166 := n2_; clear n0_ n1_ n2_; (try clear hb); (try clear hb2); (try clear hk); (try clear hi); (try clear ho0)) | ((with_reducible refine gate_callee (f := 37) rfl ?_); refine goesL_ (some 11) rfl rfl Tryz.func37 (by kernel_rfl) rfl #[.pointer (some ⟨g166, 0, none⟩), .int .i64 20] rfl (by (try simp only [List.map_toArray, List.map_cons, List.map_nil]); first | done | rfl | (simp only [List.length_drop, List.length_take]; rfl)) ?_; (with_reducible refine (spec_l6Rd_pick.calls k g166 t164 t170 20 t171 t172 w _ ?side1 ?side2 A4.out).mono ?_); (case side1 => repeat (first | (with_reducible first | exact HI166.out | apply IsS105.alloc | apply IsS105.drewN | apply IsS105.drew | apply IsS105.set_1) | exact HI166.out)); (case side2 => repeat (first | (with_reducible first | exact HB.out | apply below_alloc | apply pw_below_drewN | apply below_drew1 | refine below_set ?_ (IsS105.ge HI166.out)) | exact HB.out)); rintro e w11 ⟨rfl, hi, hb, hk⟩; refine ⟨_, rfl, ?_⟩; have n0_ := am (Kd.R_mono (Kd.R_keep (IsS105.apart (show IsS105 w _ g166 t164 t170 from by repeat (first | (with_reducible first | exact HI166.out | apply IsS105.alloc | apply IsS105.drewN | apply IsS105.drew | apply IsS105.set_1) | exact HI166.out)) (ru HO169.out) (by decide)) hk (fun _ h => h.2)) (fun _ h => h.1)); have n1_ := am (hb); have n2_ := am (hi); clear HO169; clear HB; clear HI166; have HO169 := n0_; have HB := n1_; have HI166 := n2_; clear n0_ n1_ n2_; (try clear hb); (try clear hb2); (try clear hk); (try clear hi)))
    have pi178 : (0 ≤ (t176 : Int)) = True := eq_true (od)
    have qi178 : (t176 < (y173.length : Int)) = True := eq_true (od)
    have n0_ := am (Kd.R_drew HO169.out)
    have n1_ := am (IsS105.drew HI166.out)
    have n2_ := am (below_drew1 HB.out)
    clear HO169
    clear HI166
    clear HB
    have HO169 := n0_
    have HI166 := n1_
    have HB := n2_
    clear n0_ n1_ n2_
    refine start_ (n := 8) (S := fun w' => True) (ds := []) #[F,F,F,F,F,F,F,F] (by kernel_rfl) rfl rfl trivial (fun hHeld => ?_); refine with_tabW spec_DrawMelodyMove.tab4 spec_DrawMelodyMove.bits4 (fun HT_ HW_ => ?_)
    generalize w11.drew = w12 at HO169 HI166 HB hHeld ⊢
    refine pz 0 (some 13) #[T,F,F,F,F,F,F,F] (any_of HT_.out (by kernel_rfl)) (h := ?_)
    refine pz 2 (some 15) #[T,F,T,F,F,F,F,F] (any_of HT_.out (by kernel_rfl)) (h := ?_)
    refine inv_at [1, 3, 4, 5, 6, 7] (fun a0_ b a w' => ∃ (v174 : Value) (adz_v174 : Addr) (m4_ : Value), a = putSel a0_ b [(1, 14, v174), (3, 16, .int .i64 t176), (4, 17, m4_), (5, 18, .int .i64 (rd y173 t176)), (6, 2, v168), (7, 3, .int .i64 (rd y173 t176))] ∧ (Kd.R k74 74 w' w.heap.size (fun _ => True) v168 t167) ∧ (b 3 = false → IsS105 w w' g166 t164 t172) ∧ (Below w.heap.size w w') ∧ (b 1 = true → Kd.R (Kd.int .i64) 3 w' w.heap.size (fun _ => True) v174 y173) ∧ (b 1 = true → ∃ c_, (v174 : Value) = .slice (some adz_v174) y173.length c_) ∧ (b 3 = true → IsS105 w w' g166 t164 t177) ∧ (b 4 = true → (m4_ : Value) = .pointer (some (adz_v174.add (t176).toNat)))) HT_.out HW_.out (by kernel_rfl) (by kernel_rfl) ?_ ?_ ?_
    ·exact ⟨.bool false, ⟨0, 0, none⟩, .bool false, by simp only [putSel, Bool.false_eq_true, if_false], HO169.out, fun _ => HI166.out, HB.out, fun h_ => absurd h_ (by decide), fun h_ => absurd h_ (by decide), fun h_ => absurd h_ (by decide), fun h_ => absurd h_ (by decide)⟩
    ·skip
     clear HB HI166 HO169
     refine steps_cons ?_ ?_
     ·rintro b a w' ⟨v174, adz_v174, m4_, ha, Q_HO169, Q_HI166, Q_HB, Q_HO175, Q_HA_HO175, Q_HI166_e3, Q_X4_⟩ hb_ hon hoff
      refine ⟨_, rfl, fun K hK => ?_⟩
      replace ha := am ha
      have HO169 := am Q_HO169
      have HB := am Q_HB
      refine Kd.R_lit_step (Kd.int .i64) _ 3 ?hg (N := 14) ?hd (xs := ([9223372036854775807, (-9223372036854775808), 0] : List Int)) (inner := [.int .i64 9223372036854775807, .int .i64 (-9223372036854775808), .int .i64 0]) (ok := fun _ => True) (okp := fun _ => True) ?hr ?hp (fun _ hk => hk) trivial (Below.refl _ _) (Nat.le_refl _) (by simp) ?_; (case hd => rfl); (case hg => rfl); (case hr => first | (go_simp; done) | (go_simp; rfl)); (case hp => exact (Reps.one (show Kd.M (Kd.int .i64) _ _ _ 9223372036854775807 [.int .i64 9223372036854775807] from rfl) (Reps.one (show Kd.M (Kd.int .i64) _ _ _ (-9223372036854775808) [.int .i64 (-9223372036854775808)] from rfl) (Reps.one (show Kd.M (Kd.int .i64) _ _ _ 0 [.int .i64 0] from rfl) (Reps.none _ _)))))
      intro v174 w13 ho14 hb hg_ hnew_
      clear hg_ hnew_
      (first | rw [← Ny173.out] at ho14 | (simp only [Int.reduceToNat] at ho14; rw [← Ny173.out] at ho14))
      have n0_ := am (Kd.R_below (ru HO169.out) hb)
      have n1_ := am (Kd.R_lower ho14 (below_size (bu HB.out)))
      have n3_ := am (below_step (bu HB.out) hb)
      have z_HI166 := fun (h0_ : b 3 = false) => (show IsS105 w w13 g166 t164 t172 from by first | exact (IsS105.below (by repeat (first | (with_reducible first | exact (Q_HI166 h0_) | apply IsS105.alloc | apply IsS105.drewN | apply IsS105.drew | apply IsS105.set_1) | exact (Q_HI166 h0_))) hb))
      have z_HI166_e3 := fun (h0_ : b 3 = true) => (show IsS105 w w13 g166 t164 t177 from by first | exact (IsS105.below (by repeat (first | (with_reducible first | exact (Q_HI166_e3 h0_) | apply IsS105.alloc | apply IsS105.drewN | apply IsS105.drew | apply IsS105.set_1) | exact (Q_HI166_e3 h0_))) hb))
      clear HO169
      clear HB
      have HO169 := n0_
      have HO175 := n1_
      have HB := n3_
      clear n0_ n1_ n3_
      clear hb ho14
      obtain ⟨Ao15, co15, eo15⟩ := Kd.R_slice HO175.out
      subst eo15
      obtain ⟨ado15, fo15, _⟩ := Kd.at_int (Kd.R_reads' HO175.out).2.2 0 (by decide) (by rw [Ny173.out]; simp)
      cases fo15
      refine hK.out _ _ ⟨.slice (some ado15) y173.length co15, ado15, m4_, (by rw [ha.out]; exact putSel_upk 0 hb_ rfl rfl rfl), (ru HO169.out), z_HI166, (bu HB.out), fun _ => (ru HO175.out), fun _ => ⟨_, rfl⟩, z_HI166_e3, fun h0_ => absurd ((hoff 4 (by kernel_rfl)).symm.trans h0_) (by decide)⟩
     refine steps_cons ?_ ?_
     ·rintro b a w' ⟨v174, adz_v174, m4_, ha, Q_HO169, Q_HI166, Q_HB, Q_HO175, Q_HA_HO175, Q_HI166_e3, Q_X4_⟩ hb_ hon hoff
      refine ⟨_, rfl, fun K hK => ?_⟩
      have e15 : a.tmps[15]? = some (.pointer (some ⟨g166, 0, none⟩)) := by rw [ha]; exact (putSel_off rfl).trans rfl
      replace ha := am ha
      have HO169 := am Q_HO169
      have HI166 := am (Q_HI166 hb_)
      have HB := am Q_HB
      refine goes_ Tryz.func37 (by kernel_rfl) rfl #[.pointer (some ⟨g166, 0, none⟩), .int .i64 3] (by rfl) rfl rfl (by first | (simp only [List.map_toArray, List.map_cons, List.map_nil, Act.eval, Array.getD_eq_getD_getElem?, Option.getD_some, e15]; done) | (simp only [List.map_toArray, List.map_cons, List.map_nil, Act.eval, Array.getD_eq_getD_getElem?, Option.getD_some, e15]; rfl)) ?_
      with_reducible refine (spec_l6Rd_pick.calls k g166 t164 t172 3 t176 t177 w _ ?side1 ?side2 A6.out).mono ?_
      (case side1 => repeat (first | (with_reducible first | exact HI166.out | apply IsS105.alloc | apply IsS105.drewN | apply IsS105.drew | apply IsS105.set_1) | exact HI166.out))
      (case side2 => repeat (first | (with_reducible first | exact HB.out | apply below_alloc | apply pw_below_drewN | apply below_drew1 | refine below_set ?_ (IsS105.ge HI166.out)) | exact HB.out))
      rintro e w13 ⟨rfl, hi, hb, hk⟩
      refine ⟨_, rfl, ?_⟩
      have n0_ := am (Kd.R_mono (Kd.R_keep (IsS105.apart (show IsS105 w _ g166 t164 t172 from by repeat (first | (with_reducible first | exact HI166.out | apply IsS105.alloc | apply IsS105.drewN | apply IsS105.drew | apply IsS105.set_1) | exact HI166.out)) (ru HO169.out) (by decide)) hk (fun _ h => h.2)) (fun _ h => h.1))
      have n1_ := am (hb)
      have n2_ := am (hi)
      have z_HO175 := fun (h0_ : b 1 = true) => (show Kd.R (Kd.int .i64) 3 w13 w.heap.size (fun _ => True) v174 y173 from by first | exact (Kd.R_mono (Kd.R_keep (IsS105.apart (show IsS105 w _ g166 t164 t172 from by repeat (first | (with_reducible first | exact HI166.out | apply IsS105.alloc | apply IsS105.drewN | apply IsS105.drew | apply IsS105.set_1) | exact HI166.out)) (by (with_reducible repeat (first | apply Kd.R_alloc | apply Kd.R_drewN | apply Kd.R_drew)); exact (Q_HO175 h0_)) (by decide)) hk (fun _ h => h.2)) (fun _ h => h.1)) | exact Kd.R_mono (Kd.R_mono (Kd.R_keep (IsS105.apart (show IsS105 w _ g166 t164 t172 from by repeat (first | (with_reducible first | exact HI166.out | apply IsS105.alloc | apply IsS105.drewN | apply IsS105.drew | apply IsS105.set_1) | exact HI166.out)) (by (with_reducible repeat (first | apply Kd.R_alloc | apply Kd.R_drewN | apply Kd.R_drew)); exact (Q_HO175 h0_)) (by decide)) hk (fun _ h => h.2)) (fun _ h => h.1)) (fun _ h_ => by first | trivial | exact h_ | exact h_.1))
      clear HO169
      clear HB
      clear HI166
      have HO169 := n0_
      have HB := n1_
      have HI166 := n2_
      clear n0_ n1_ n2_
      (try clear hb)
      (try clear hb2)
      (try clear hk)
      (try clear hi)
      refine hK.out _ _ ⟨v174, adz_v174, m4_, (by rw [ha.out]; exact putSel_upk 1 hb_ rfl rfl rfl), (ru HO169.out), fun h0_ => absurd ((up_self b 3).symm.trans h0_) (by decide), (by repeat (first | (with_reducible first | exact HB.out | apply below_alloc | apply pw_below_drewN | apply below_drew1 | refine below_set ?_ (IsS105.ge HI166.out)) | exact HB.out)), z_HO175, Q_HA_HO175, fun _ => (by repeat (first | (with_reducible first | exact HI166.out | apply IsS105.alloc | apply IsS105.drewN | apply IsS105.drew | apply IsS105.set_1) | exact HI166.out)), fun h0_ => absurd ((hoff 4 (by kernel_rfl)).symm.trans h0_) (by decide)⟩
     refine steps_cons ?_ ?_
     ·rintro b a w' ⟨v174, adz_v174, m4_, ha, Q_HO169, Q_HI166, Q_HB, Q_HO175, Q_HA_HO175, Q_HI166_e3, Q_X4_⟩ hb_ hon hoff
      refine ⟨_, rfl, fun K hK => ?_⟩
      have e14 : a.tmps[14]? = some (v174) := by rw [ha]; exact putSel_on (e := (1, 14, v174)) 0 rfl rfl (hon 1 (by kernel_rfl)) rfl
      have e16 : a.tmps[16]? = some (.int .i64 t176) := by rw [ha]; exact putSel_on (e := (3, 16, .int .i64 t176)) 1 rfl rfl (hon 3 (by kernel_rfl)) rfl
      replace ha := am ha
      have HO169 := am Q_HO169
      have HB := am Q_HB
      have HO175 := am (Q_HO175 (hon 1 (by kernel_rfl)))
      have HA_HO175 := am (Q_HA_HO175 (hon 1 (by kernel_rfl)))
      have HI166 := am (Q_HI166_e3 (hon 3 (by kernel_rfl)))
      obtain ⟨c_, hv_⟩ := HA_HO175.out
      rw [hv_] at e14
      refine value_ (w1 := w') (v := .pointer (some (adz_v174.add (t176).toNat))) (by rfl) rfl ?_ ?_
      ·go_simp
       (try simp only [i64_w])
       try rfl
      refine hK.out _ _ ⟨v174, adz_v174, (.pointer (some (adz_v174.add (t176).toNat))), (by rw [ha.out]; exact putSel_upk 2 hb_ rfl rfl rfl), Q_HO169, fun h0_ => absurd ((hon 3 (by kernel_rfl)).symm.trans h0_) (by decide), Q_HB, Q_HO175, Q_HA_HO175, Q_HI166_e3, fun _ => rfl⟩
     refine steps_cons ?_ ?_
     ·rintro b a w' ⟨v174, adz_v174, m4_, ha, Q_HO169, Q_HI166, Q_HB, Q_HO175, Q_HA_HO175, Q_HI166_e3, Q_X4_⟩ hb_ hon hoff
      refine ⟨_, rfl, fun K hK => ?_⟩
      have e17 : a.tmps[17]? = some (m4_) := by rw [ha]; exact putSel_on (e := (4, 17, m4_)) 2 rfl rfl (hon 4 (by kernel_rfl)) rfl
      rw [Q_X4_ (hon 4 (by kernel_rfl))] at e17
      replace ha := am ha
      have HO169 := am Q_HO169
      have HB := am Q_HB
      have HO175 := am (Q_HO175 (hon 1 (by kernel_rfl)))
      have HA_HO175 := am (Q_HA_HO175 (hon 1 (by kernel_rfl)))
      have HI166 := am (Q_HI166_e3 (hon 3 (by kernel_rfl)))
      obtain ⟨c_, hv_⟩ := HA_HO175.out
      have hF_ := HO175.out
      rw [hv_] at hF_
      obtain ⟨ad_, ea_, hx_⟩ := Kd.at_int (Kd.R_reads' hF_).2.2 t176 (of_eq_true pi178) (of_eq_true qi178)
      cases ea_
      refine value_ (w1 := w') (v := .int .i64 (rd y173 t176)) (by rfl) rfl ?_ ?_
      ·go_simp
       (try simp only [i64_w])
       try rfl
      refine hK.out _ _ ⟨v174, adz_v174, m4_, (by rw [ha.out]; exact putSel_upk 3 hb_ rfl rfl rfl), Q_HO169, fun h0_ => absurd ((hon 3 (by kernel_rfl)).symm.trans h0_) (by decide), Q_HB, Q_HO175, Q_HA_HO175, Q_HI166_e3, Q_X4_⟩
     refine steps_cons ?_ ?_
     ·rintro b a w' ⟨v174, adz_v174, m4_, ha, Q_HO169, Q_HI166, Q_HB, Q_HO175, Q_HA_HO175, Q_HI166_e3, Q_X4_⟩ hb_ hon hoff
      refine ⟨_, rfl, fun K hK => ?_⟩
      have e13 : a.tmps[13]? = some (v168) := by rw [ha]; exact (putSel_off rfl).trans rfl
      replace ha := am ha
      have HO169 := am Q_HO169
      have HB := am Q_HB
      have HI166 := am (Q_HI166_e3 (hon 3 (by kernel_rfl)))
      refine value_ (w1 := w') (v := v168) (by rfl) rfl ?_ ?_
      ·go_simp
       (try simp only [i64_w])
       try rfl
      refine hK.out _ _ ⟨v174, adz_v174, m4_, (by rw [ha.out]; exact putSel_upk 4 hb_ rfl rfl rfl), Q_HO169, fun h0_ => absurd ((hon 3 (by kernel_rfl)).symm.trans h0_) (by decide), Q_HB, Q_HO175, Q_HA_HO175, Q_HI166_e3, Q_X4_⟩
     refine steps_cons ?_ ?_
     ·rintro b a w' ⟨v174, adz_v174, m4_, ha, Q_HO169, Q_HI166, Q_HB, Q_HO175, Q_HA_HO175, Q_HI166_e3, Q_X4_⟩ hb_ hon hoff
      refine ⟨_, rfl, fun K hK => ?_⟩
      have e18 : a.tmps[18]? = some (.int .i64 (rd y173 t176)) := by rw [ha]; exact putSel_on (e := (5, 18, .int .i64 (rd y173 t176))) 3 rfl rfl (hon 5 (by kernel_rfl)) rfl
      replace ha := am ha
      have HO169 := am Q_HO169
      have HB := am Q_HB
      have HO175 := am (Q_HO175 (hon 1 (by kernel_rfl)))
      have HA_HO175 := am (Q_HA_HO175 (hon 1 (by kernel_rfl)))
      have HI166 := am (Q_HI166_e3 (hon 3 (by kernel_rfl)))
      refine value_ (w1 := w') (v := .int .i64 (rd y173 t176)) (by rfl) rfl ?_ ?_
      ·go_simp
       (try simp only [i64_w])
       try rfl
      refine hK.out _ _ ⟨v174, adz_v174, m4_, (by rw [ha.out]; exact putSel_upk 5 hb_ rfl rfl rfl), Q_HO169, fun h0_ => absurd ((hon 3 (by kernel_rfl)).symm.trans h0_) (by decide), Q_HB, Q_HO175, Q_HA_HO175, Q_HI166_e3, Q_X4_⟩
     exact steps_nil
    rintro b a w17 hall ⟨v174, adz_v174, m4_, ha, Q_HO169, Q_HI166, Q_HB, Q_HO175, Q_HA_HO175, Q_HI166_e3, Q_X4_⟩
    clear HB HI166 HO169
    have hb1_ := hall 1 (by kernel_rfl)
    have hb3_ := hall 3 (by kernel_rfl)
    have hb4_ := hall 4 (by kernel_rfl)
    have hb5_ := hall 5 (by kernel_rfl)
    have hb6_ := hall 6 (by kernel_rfl)
    have hb7_ := hall 7 (by kernel_rfl)
    subst ha
    obtain rfl := Q_X4_ hb4_
    simp only [putSel, hb1_, hb3_, hb4_, hb5_, hb6_, hb7_, if_true, Act.put, sA, sZ, sS]
    have HO169 := am Q_HO169
    clear Q_HO169
    clear Q_HI166
    have HB := am Q_HB
    clear Q_HB
    have HO175 := am (Q_HO175 hb1_)
    clear Q_HO175
    have HA_HO175 := am (Q_HA_HO175 hb1_)
    clear Q_HA_HO175
    have HI166 := am (Q_HI166_e3 hb3_)
    clear Q_HI166_e3
    clear hall hb1_ hb3_ hb4_ hb5_ hb6_ hb7_
    obtain ⟨co18, eo18⟩ := HA_HO175.out
    clear HA_HO175
    subst eo18
    try go_wp2
    go_ret2
    exact ⟨_, by first | rfl | (simp [errW_none, errW_some] <;> rfl) | (simp [*, errW_none, errW_some] <;> rfl), ru HO169.out, by repeat (first | (with_reducible first | exact HB.out | apply below_alloc | apply pw_below_drewN | apply below_drew1 | refine below_set ?_ (IsS105.ge HI166.out)) | exact HB.out)⟩
   ·rw [if_neg c8] at H
    exact absurd H (by simp)
  ·rw [if_neg c7] at H
   exact absurd H (by simp)
 ·rw [if_neg c5] at H
  have c5b0 : (t171 == 0) = false := beq_eq_false_iff_ne.mpr c5
  have c5b1 : (t171 != 0) = true := bne_iff_ne.mpr c5
  obtain ⟨y179, hy179⟩ : ∃ y_ : List Int, y_ = (([(-7), (-4), (-3), 0, 3, 4, 7, 1, (-1), 2] : List Int)) := ⟨_, rfl⟩
  replace H : ((spec_l6Rd_pick.f k t164 t172 10).bind fun bt182 => (if 0 ≤ bt182.1 then (if bt182.1 < (y179.length : Int) then (some (t167, rd y179 bt182.1)) else (none)) else (none))) = some (r1, r2) := by first | (rw [hy179]; with_reducible exact H) | (have H2_ := (Option.bind_some _ _).symm.trans H; rw [hy179]; with_reducible exact H2_) | (have H2_ := (Option.bind_some _ _).symm.trans H; with_reducible exact H2_) | with_reducible exact H | (rw [hy179]; exact H) | exact H
  have Ny179 := am hy179
  clear hy179
  replace H := Option.bind_eq_some_iff.mp H
  obtain ⟨⟨t182, t183⟩, A190, H⟩ := H
  replace H : (if 0 ≤ t182 then (if t182 < (y179.length : Int) then (some (t167, rd y179 t182)) else (none)) else (none)) = some (r1, r2) := H
  have A19 := am A190
  clear A190
  by_cases c20 : 0 ≤ t182
  ·rw [if_pos c20] at H
   have c20b0 : decide (0 ≤ t182) = true := decide_eq_true c20
   clear c20
   by_cases c21 : t182 < (y179.length : Int)
   ·rw [if_pos c21] at H
    have c21b0 : decide (t182 < (y179.length : Int)) = true := decide_eq_true c21
    clear c21
    simp only [Option.some.injEq, Prod.mk.injEq] at H
    obtain ⟨rfl, rfl⟩ := H
    go_enter Tryz.func22, Tryz.ntmps22
    try go_wp2_with (first | ((with_reducible refine gate_callee (f := 36) rfl ?_); refine goesL_ (some 7) rfl rfl Tryz.func36 (by kernel_rfl) rfl #[.slice A0 l0.length c0] rfl (by (try simp only [List.map_toArray, List.map_cons, List.map_nil]); first | done | rfl | (simp only [List.length_drop, List.length_take]; rfl)) ?_; (with_reducible refine (spec_l6Open.calls _ _ l0 t164 t165 w _ ?side1 ?side2 ?side3 A2.out).mono ?_); (case side1 => repeat (first | (with_reducible first | exact HB.out | apply below_alloc | apply pw_below_drewN | apply below_drew1) | exact HB.out)); (case side2 => exact HR0.out); (case side3 => exact HC0.out); rintro e w22 ⟨g166, rfl, hi, hb, hb2⟩; refine ⟨_, rfl, ?_⟩; have n0_ := am (hb); have n1_ := am (hi); clear HB; have HB := n0_; have HI166 := n1_; clear n0_ n1_; (try clear hb); (try clear hb2); (try clear hk); (try clear hi)) | ((with_reducible refine gate_callee (f := 52) rfl ?_); refine goesL_ (some 9) rfl rfl Tryz.func52 (by kernel_rfl) rfl #[.pointer (some ⟨g166, 0, none⟩), .int .i64 5] rfl (by (try simp only [List.map_toArray, List.map_cons, List.map_nil]); first | done | rfl | (simp only [List.length_drop, List.length_take]; rfl)) ?_; (with_reducible refine (spec_l91Melody.calls k g166 t164 t165 5 t167 t170 w _ ?side1 ?side2 A3.out).mono ?_); (case side1 => repeat (first | (with_reducible first | exact HI166.out | apply IsS105.alloc | apply IsS105.drewN | apply IsS105.drew | apply IsS105.set_1) | exact HI166.out)); (case side2 => repeat (first | (with_reducible first | exact HB.out | apply below_alloc | apply pw_below_drewN | apply below_drew1 | refine below_set ?_ (IsS105.ge HI166.out)) | exact HB.out)); rintro e w23 ⟨v168, rfl, ho0, hi, hb, hk⟩; refine ⟨_, rfl, ?_⟩; have n0_ := am (Kd.R_lower ho0 (below_size (by repeat (first | (with_reducible first | exact HB.out | apply below_alloc | apply pw_below_drewN | apply below_drew1 | refine below_set ?_ (IsS105.ge HI166.out)) | exact HB.out)))); have n1_ := am (hb); have n2_ := am (hi); clear HB; clear HI166; have HO169 := n0_; have HB := n1_; have HI166 := n2_; clear n0_ n1_ n2_; (try clear hb); (try clear hb2); (try clear hk); (try clear hi); (try clear ho0)) | ((with_reducible refine gate_callee (f := 37) rfl ?_); refine goesL_ (some 11) rfl rfl Tryz.func37 (by kernel_rfl) rfl #[.pointer (some ⟨g166, 0, none⟩), .int .i64 20] rfl (by (try simp only [List.map_toArray, List.map_cons, List.map_nil]); first | done | rfl | (simp only [List.length_drop, List.length_take]; rfl)) ?_; (with_reducible refine (spec_l6Rd_pick.calls k g166 t164 t170 20 t171 t172 w _ ?side1 ?side2 A4.out).mono ?_); (case side1 => repeat (first | (with_reducible first | exact HI166.out | apply IsS105.alloc | apply IsS105.drewN | apply IsS105.drew | apply IsS105.set_1) | exact HI166.out)); (case side2 => repeat (first | (with_reducible first | exact HB.out | apply below_alloc | apply pw_below_drewN | apply below_drew1 | refine below_set ?_ (IsS105.ge HI166.out)) | exact HB.out)); rintro e w24 ⟨rfl, hi, hb, hk⟩; refine ⟨_, rfl, ?_⟩; have n0_ := am (Kd.R_mono (Kd.R_keep (IsS105.apart (show IsS105 w _ g166 t164 t170 from by repeat (first | (with_reducible first | exact HI166.out | apply IsS105.alloc | apply IsS105.drewN | apply IsS105.drew | apply IsS105.set_1) | exact HI166.out)) (ru HO169.out) (by decide)) hk (fun _ h => h.2)) (fun _ h => h.1)); have n1_ := am (hb); have n2_ := am (hi); clear HO169; clear HB; clear HI166; have HO169 := n0_; have HB := n1_; have HI166 := n2_; clear n0_ n1_ n2_; (try clear hb); (try clear hb2); (try clear hk); (try clear hi)))
    have pi184 : (0 ≤ (t182 : Int)) = True := eq_true (od)
    have qi184 : (t182 < (y179.length : Int)) = True := eq_true (od)
    have n0_ := am (Kd.R_drew HO169.out)
    have n1_ := am (IsS105.drew HI166.out)
    have n2_ := am (below_drew1 HB.out)
    clear HO169
    clear HI166
    clear HB
    have HO169 := n0_
    have HI166 := n1_
    have HB := n2_
    clear n0_ n1_ n2_
    refine start_ (n := 8) (S := fun w' => True) (ds := []) #[F,F,F,F,F,F,F,F] (by kernel_rfl) rfl rfl trivial (fun hHeld => ?_); refine with_tabW spec_DrawMelodyMove.tab5 spec_DrawMelodyMove.bits5 (fun HT_ HW_ => ?_)
    generalize w24.drew = w25 at HO169 HI166 HB hHeld ⊢
    refine pz 0 (some 19) #[T,F,F,F,F,F,F,F] (any_of HT_.out (by kernel_rfl)) (h := ?_)
    refine pz 2 (some 21) #[T,F,T,F,F,F,F,F] (any_of HT_.out (by kernel_rfl)) (h := ?_)
    refine inv_at [1, 3, 4, 5, 6, 7] (fun a0_ b a w' => ∃ (v180 : Value) (adz_v180 : Addr) (m4_ : Value), a = putSel a0_ b [(1, 20, v180), (3, 22, .int .i64 t182), (4, 23, m4_), (5, 24, .int .i64 (rd y179 t182)), (6, 2, v168), (7, 3, .int .i64 (rd y179 t182))] ∧ (Kd.R k74 74 w' w.heap.size (fun _ => True) v168 t167) ∧ (b 3 = false → IsS105 w w' g166 t164 t172) ∧ (Below w.heap.size w w') ∧ (b 1 = true → Kd.R (Kd.int .i64) 3 w' w.heap.size (fun _ => True) v180 y179) ∧ (b 1 = true → ∃ c_, (v180 : Value) = .slice (some adz_v180) y179.length c_) ∧ (b 3 = true → IsS105 w w' g166 t164 t183) ∧ (b 4 = true → (m4_ : Value) = .pointer (some (adz_v180.add (t182).toNat)))) HT_.out HW_.out (by kernel_rfl) (by kernel_rfl) ?_ ?_ ?_
    ·exact ⟨.bool false, ⟨0, 0, none⟩, .bool false, by simp only [putSel, Bool.false_eq_true, if_false], HO169.out, fun _ => HI166.out, HB.out, fun h_ => absurd h_ (by decide), fun h_ => absurd h_ (by decide), fun h_ => absurd h_ (by decide), fun h_ => absurd h_ (by decide)⟩
    ·skip
     clear HB HI166 HO169
     refine steps_cons ?_ ?_
     ·rintro b a w' ⟨v180, adz_v180, m4_, ha, Q_HO169, Q_HI166, Q_HB, Q_HO181, Q_HA_HO181, Q_HI166_e3, Q_X4_⟩ hb_ hon hoff
      refine ⟨_, rfl, fun K hK => ?_⟩
      replace ha := am ha
      have HO169 := am Q_HO169
      have HB := am Q_HB
      refine Kd.R_lit_step (Kd.int .i64) _ 3 ?hg (N := 20) ?hd (xs := ([(-7), (-4), (-3), 0, 3, 4, 7, 1, (-1), 2] : List Int)) (inner := [.int .i64 (-7), .int .i64 (-4), .int .i64 (-3), .int .i64 0, .int .i64 3, .int .i64 4, .int .i64 7, .int .i64 1, .int .i64 (-1), .int .i64 2]) (ok := fun _ => True) (okp := fun _ => True) ?hr ?hp (fun _ hk => hk) trivial (Below.refl _ _) (Nat.le_refl _) (by simp) ?_; (case hd => rfl); (case hg => rfl); (case hr => first | (go_simp; done) | (go_simp; rfl)); (case hp => exact (Reps.one (show Kd.M (Kd.int .i64) _ _ _ (-7) [.int .i64 (-7)] from rfl) (Reps.one (show Kd.M (Kd.int .i64) _ _ _ (-4) [.int .i64 (-4)] from rfl) (Reps.one (show Kd.M (Kd.int .i64) _ _ _ (-3) [.int .i64 (-3)] from rfl) (Reps.one (show Kd.M (Kd.int .i64) _ _ _ 0 [.int .i64 0] from rfl) (Reps.one (show Kd.M (Kd.int .i64) _ _ _ 3 [.int .i64 3] from rfl) (Reps.one (show Kd.M (Kd.int .i64) _ _ _ 4 [.int .i64 4] from rfl) (Reps.one (show Kd.M (Kd.int .i64) _ _ _ 7 [.int .i64 7] from rfl) (Reps.one (show Kd.M (Kd.int .i64) _ _ _ 1 [.int .i64 1] from rfl) (Reps.one (show Kd.M (Kd.int .i64) _ _ _ (-1) [.int .i64 (-1)] from rfl) (Reps.one (show Kd.M (Kd.int .i64) _ _ _ 2 [.int .i64 2] from rfl) (Reps.none _ _))))))))))))
      intro v180 w26 ho27 hb hg_ hnew_
      clear hg_ hnew_
      (first | rw [← Ny179.out] at ho27 | (simp only [Int.reduceToNat] at ho27; rw [← Ny179.out] at ho27))
      have n0_ := am (Kd.R_below (ru HO169.out) hb)
      have n1_ := am (Kd.R_lower ho27 (below_size (bu HB.out)))
      have n3_ := am (below_step (bu HB.out) hb)
      have z_HI166 := fun (h0_ : b 3 = false) => (show IsS105 w w26 g166 t164 t172 from by first | exact (IsS105.below (by repeat (first | (with_reducible first | exact (Q_HI166 h0_) | apply IsS105.alloc | apply IsS105.drewN | apply IsS105.drew | apply IsS105.set_1) | exact (Q_HI166 h0_))) hb))
      have z_HI166_e3 := fun (h0_ : b 3 = true) => (show IsS105 w w26 g166 t164 t183 from by first | exact (IsS105.below (by repeat (first | (with_reducible first | exact (Q_HI166_e3 h0_) | apply IsS105.alloc | apply IsS105.drewN | apply IsS105.drew | apply IsS105.set_1) | exact (Q_HI166_e3 h0_))) hb))
      clear HO169
      clear HB
      have HO169 := n0_
      have HO181 := n1_
      have HB := n3_
      clear n0_ n1_ n3_
      clear hb ho27
      obtain ⟨Ao28, co28, eo28⟩ := Kd.R_slice HO181.out
      subst eo28
      obtain ⟨ado28, fo28, _⟩ := Kd.at_int (Kd.R_reads' HO181.out).2.2 0 (by decide) (by rw [Ny179.out]; simp)
      cases fo28
      refine hK.out _ _ ⟨.slice (some ado28) y179.length co28, ado28, m4_, (by rw [ha.out]; exact putSel_upk 0 hb_ rfl rfl rfl), (ru HO169.out), z_HI166, (bu HB.out), fun _ => (ru HO181.out), fun _ => ⟨_, rfl⟩, z_HI166_e3, fun h0_ => absurd ((hoff 4 (by kernel_rfl)).symm.trans h0_) (by decide)⟩
     refine steps_cons ?_ ?_
     ·rintro b a w' ⟨v180, adz_v180, m4_, ha, Q_HO169, Q_HI166, Q_HB, Q_HO181, Q_HA_HO181, Q_HI166_e3, Q_X4_⟩ hb_ hon hoff
      refine ⟨_, rfl, fun K hK => ?_⟩
      have e21 : a.tmps[21]? = some (.pointer (some ⟨g166, 0, none⟩)) := by rw [ha]; exact (putSel_off rfl).trans rfl
      replace ha := am ha
      have HO169 := am Q_HO169
      have HI166 := am (Q_HI166 hb_)
      have HB := am Q_HB
      refine goes_ Tryz.func37 (by kernel_rfl) rfl #[.pointer (some ⟨g166, 0, none⟩), .int .i64 10] (by rfl) rfl rfl (by first | (simp only [List.map_toArray, List.map_cons, List.map_nil, Act.eval, Array.getD_eq_getD_getElem?, Option.getD_some, e21]; done) | (simp only [List.map_toArray, List.map_cons, List.map_nil, Act.eval, Array.getD_eq_getD_getElem?, Option.getD_some, e21]; rfl)) ?_
      with_reducible refine (spec_l6Rd_pick.calls k g166 t164 t172 10 t182 t183 w _ ?side1 ?side2 A19.out).mono ?_
      (case side1 => repeat (first | (with_reducible first | exact HI166.out | apply IsS105.alloc | apply IsS105.drewN | apply IsS105.drew | apply IsS105.set_1) | exact HI166.out))
      (case side2 => repeat (first | (with_reducible first | exact HB.out | apply below_alloc | apply pw_below_drewN | apply below_drew1 | refine below_set ?_ (IsS105.ge HI166.out)) | exact HB.out))
      rintro e w26 ⟨rfl, hi, hb, hk⟩
      refine ⟨_, rfl, ?_⟩
      have n0_ := am (Kd.R_mono (Kd.R_keep (IsS105.apart (show IsS105 w _ g166 t164 t172 from by repeat (first | (with_reducible first | exact HI166.out | apply IsS105.alloc | apply IsS105.drewN | apply IsS105.drew | apply IsS105.set_1) | exact HI166.out)) (ru HO169.out) (by decide)) hk (fun _ h => h.2)) (fun _ h => h.1))
      have n1_ := am (hb)
      have n2_ := am (hi)
      have z_HO181 := fun (h0_ : b 1 = true) => (show Kd.R (Kd.int .i64) 3 w26 w.heap.size (fun _ => True) v180 y179 from by first | exact (Kd.R_mono (Kd.R_keep (IsS105.apart (show IsS105 w _ g166 t164 t172 from by repeat (first | (with_reducible first | exact HI166.out | apply IsS105.alloc | apply IsS105.drewN | apply IsS105.drew | apply IsS105.set_1) | exact HI166.out)) (by (with_reducible repeat (first | apply Kd.R_alloc | apply Kd.R_drewN | apply Kd.R_drew)); exact (Q_HO181 h0_)) (by decide)) hk (fun _ h => h.2)) (fun _ h => h.1)) | exact Kd.R_mono (Kd.R_mono (Kd.R_keep (IsS105.apart (show IsS105 w _ g166 t164 t172 from by repeat (first | (with_reducible first | exact HI166.out | apply IsS105.alloc | apply IsS105.drewN | apply IsS105.drew | apply IsS105.set_1) | exact HI166.out)) (by (with_reducible repeat (first | apply Kd.R_alloc | apply Kd.R_drewN | apply Kd.R_drew)); exact (Q_HO181 h0_)) (by decide)) hk (fun _ h => h.2)) (fun _ h => h.1)) (fun _ h_ => by first | trivial | exact h_ | exact h_.1))
      clear HO169
      clear HB
      clear HI166
      have HO169 := n0_
      have HB := n1_
      have HI166 := n2_
      clear n0_ n1_ n2_
      (try clear hb)
      (try clear hb2)
      (try clear hk)
      (try clear hi)
      refine hK.out _ _ ⟨v180, adz_v180, m4_, (by rw [ha.out]; exact putSel_upk 1 hb_ rfl rfl rfl), (ru HO169.out), fun h0_ => absurd ((up_self b 3).symm.trans h0_) (by decide), (by repeat (first | (with_reducible first | exact HB.out | apply below_alloc | apply pw_below_drewN | apply below_drew1 | refine below_set ?_ (IsS105.ge HI166.out)) | exact HB.out)), z_HO181, Q_HA_HO181, fun _ => (by repeat (first | (with_reducible first | exact HI166.out | apply IsS105.alloc | apply IsS105.drewN | apply IsS105.drew | apply IsS105.set_1) | exact HI166.out)), fun h0_ => absurd ((hoff 4 (by kernel_rfl)).symm.trans h0_) (by decide)⟩
     refine steps_cons ?_ ?_
     ·rintro b a w' ⟨v180, adz_v180, m4_, ha, Q_HO169, Q_HI166, Q_HB, Q_HO181, Q_HA_HO181, Q_HI166_e3, Q_X4_⟩ hb_ hon hoff
      refine ⟨_, rfl, fun K hK => ?_⟩
      have e20 : a.tmps[20]? = some (v180) := by rw [ha]; exact putSel_on (e := (1, 20, v180)) 0 rfl rfl (hon 1 (by kernel_rfl)) rfl
      have e22 : a.tmps[22]? = some (.int .i64 t182) := by rw [ha]; exact putSel_on (e := (3, 22, .int .i64 t182)) 1 rfl rfl (hon 3 (by kernel_rfl)) rfl
      replace ha := am ha
      have HO169 := am Q_HO169
      have HB := am Q_HB
      have HO181 := am (Q_HO181 (hon 1 (by kernel_rfl)))
      have HA_HO181 := am (Q_HA_HO181 (hon 1 (by kernel_rfl)))
      have HI166 := am (Q_HI166_e3 (hon 3 (by kernel_rfl)))
      obtain ⟨c_, hv_⟩ := HA_HO181.out
      rw [hv_] at e20
      refine value_ (w1 := w') (v := .pointer (some (adz_v180.add (t182).toNat))) (by rfl) rfl ?_ ?_
      ·go_simp
       (try simp only [i64_w])
       try rfl
      refine hK.out _ _ ⟨v180, adz_v180, (.pointer (some (adz_v180.add (t182).toNat))), (by rw [ha.out]; exact putSel_upk 2 hb_ rfl rfl rfl), Q_HO169, fun h0_ => absurd ((hon 3 (by kernel_rfl)).symm.trans h0_) (by decide), Q_HB, Q_HO181, Q_HA_HO181, Q_HI166_e3, fun _ => rfl⟩
     refine steps_cons ?_ ?_
     ·rintro b a w' ⟨v180, adz_v180, m4_, ha, Q_HO169, Q_HI166, Q_HB, Q_HO181, Q_HA_HO181, Q_HI166_e3, Q_X4_⟩ hb_ hon hoff
      refine ⟨_, rfl, fun K hK => ?_⟩
      have e23 : a.tmps[23]? = some (m4_) := by rw [ha]; exact putSel_on (e := (4, 23, m4_)) 2 rfl rfl (hon 4 (by kernel_rfl)) rfl
      rw [Q_X4_ (hon 4 (by kernel_rfl))] at e23
      replace ha := am ha
      have HO169 := am Q_HO169
      have HB := am Q_HB
      have HO181 := am (Q_HO181 (hon 1 (by kernel_rfl)))
      have HA_HO181 := am (Q_HA_HO181 (hon 1 (by kernel_rfl)))
      have HI166 := am (Q_HI166_e3 (hon 3 (by kernel_rfl)))
      obtain ⟨c_, hv_⟩ := HA_HO181.out
      have hF_ := HO181.out
      rw [hv_] at hF_
      obtain ⟨ad_, ea_, hx_⟩ := Kd.at_int (Kd.R_reads' hF_).2.2 t182 (of_eq_true pi184) (of_eq_true qi184)
      cases ea_
      refine value_ (w1 := w') (v := .int .i64 (rd y179 t182)) (by rfl) rfl ?_ ?_
      ·go_simp
       (try simp only [i64_w])
       try rfl
      refine hK.out _ _ ⟨v180, adz_v180, m4_, (by rw [ha.out]; exact putSel_upk 3 hb_ rfl rfl rfl), Q_HO169, fun h0_ => absurd ((hon 3 (by kernel_rfl)).symm.trans h0_) (by decide), Q_HB, Q_HO181, Q_HA_HO181, Q_HI166_e3, Q_X4_⟩
     refine steps_cons ?_ ?_
     ·rintro b a w' ⟨v180, adz_v180, m4_, ha, Q_HO169, Q_HI166, Q_HB, Q_HO181, Q_HA_HO181, Q_HI166_e3, Q_X4_⟩ hb_ hon hoff
      refine ⟨_, rfl, fun K hK => ?_⟩
      have e19 : a.tmps[19]? = some (v168) := by rw [ha]; exact (putSel_off rfl).trans rfl
      replace ha := am ha
      have HO169 := am Q_HO169
      have HB := am Q_HB
      have HI166 := am (Q_HI166_e3 (hon 3 (by kernel_rfl)))
      refine value_ (w1 := w') (v := v168) (by rfl) rfl ?_ ?_
      ·go_simp
       (try simp only [i64_w])
       try rfl
      refine hK.out _ _ ⟨v180, adz_v180, m4_, (by rw [ha.out]; exact putSel_upk 4 hb_ rfl rfl rfl), Q_HO169, fun h0_ => absurd ((hon 3 (by kernel_rfl)).symm.trans h0_) (by decide), Q_HB, Q_HO181, Q_HA_HO181, Q_HI166_e3, Q_X4_⟩
     refine steps_cons ?_ ?_
     ·rintro b a w' ⟨v180, adz_v180, m4_, ha, Q_HO169, Q_HI166, Q_HB, Q_HO181, Q_HA_HO181, Q_HI166_e3, Q_X4_⟩ hb_ hon hoff
      refine ⟨_, rfl, fun K hK => ?_⟩
      have e24 : a.tmps[24]? = some (.int .i64 (rd y179 t182)) := by rw [ha]; exact putSel_on (e := (5, 24, .int .i64 (rd y179 t182))) 3 rfl rfl (hon 5 (by kernel_rfl)) rfl
      replace ha := am ha
      have HO169 := am Q_HO169
      have HB := am Q_HB
      have HO181 := am (Q_HO181 (hon 1 (by kernel_rfl)))
      have HA_HO181 := am (Q_HA_HO181 (hon 1 (by kernel_rfl)))
      have HI166 := am (Q_HI166_e3 (hon 3 (by kernel_rfl)))
      refine value_ (w1 := w') (v := .int .i64 (rd y179 t182)) (by rfl) rfl ?_ ?_
      ·go_simp
       (try simp only [i64_w])
       try rfl
      refine hK.out _ _ ⟨v180, adz_v180, m4_, (by rw [ha.out]; exact putSel_upk 5 hb_ rfl rfl rfl), Q_HO169, fun h0_ => absurd ((hon 3 (by kernel_rfl)).symm.trans h0_) (by decide), Q_HB, Q_HO181, Q_HA_HO181, Q_HI166_e3, Q_X4_⟩
     exact steps_nil
    rintro b a w30 hall ⟨v180, adz_v180, m4_, ha, Q_HO169, Q_HI166, Q_HB, Q_HO181, Q_HA_HO181, Q_HI166_e3, Q_X4_⟩
    clear HB HI166 HO169
    have hb1_ := hall 1 (by kernel_rfl)
    have hb3_ := hall 3 (by kernel_rfl)
    have hb4_ := hall 4 (by kernel_rfl)
    have hb5_ := hall 5 (by kernel_rfl)
    have hb6_ := hall 6 (by kernel_rfl)
    have hb7_ := hall 7 (by kernel_rfl)
    subst ha
    obtain rfl := Q_X4_ hb4_
    simp only [putSel, hb1_, hb3_, hb4_, hb5_, hb6_, hb7_, if_true, Act.put, sA, sZ, sS]
    have HO169 := am Q_HO169
    clear Q_HO169
    clear Q_HI166
    have HB := am Q_HB
    clear Q_HB
    have HO181 := am (Q_HO181 hb1_)
    clear Q_HO181
    have HA_HO181 := am (Q_HA_HO181 hb1_)
    clear Q_HA_HO181
    have HI166 := am (Q_HI166_e3 hb3_)
    clear Q_HI166_e3
    clear hall hb1_ hb3_ hb4_ hb5_ hb6_ hb7_
    obtain ⟨co31, eo31⟩ := HA_HO181.out
    clear HA_HO181
    subst eo31
    try go_wp2
    go_ret2
    exact ⟨_, by first | rfl | (simp [errW_none, errW_some] <;> rfl) | (simp [*, errW_none, errW_some] <;> rfl), ru HO169.out, by repeat (first | (with_reducible first | exact HB.out | apply below_alloc | apply pw_below_drewN | apply below_drew1 | refine below_set ?_ (IsS105.ge HI166.out)) | exact HB.out)⟩
   ·rw [if_neg c21] at H
    exact absurd H (by simp)
  ·rw [if_neg c20] at H
   exact absurd H (by simp)

/-! ### spec_l6In: function 51 -/
def spec_l6In.f (a0 : Int) (a1 : Int) (a2 : Int) : Option (Bool) := if a0 ≥ a1 then (some (decide (a0 ≤ a2))) else (some false)
set_option maxHeartbeats 8000000 in
set_option maxRecDepth 100000 in
theorem spec_l6In.calls (a0 : Int) (a1 : Int) (a2 : Int) (r : Bool) (w : World) (h : spec_l6In.f a0 a1 a2 = some r) :
  Calls Tryz.prog 51 #[.int .i64 a0, .int .i64 a1, .int .i64 a2] w fun e w' => e = .returned (.bool r) ∧ Drawn0 w w' := by
 have H : (if a0 ≥ a1 then (some (decide (a0 ≤ a2))) else (some false)) = some r := h
 clear h
 by_cases c4 : a0 ≥ a1
 ·rw [if_pos c4] at H
  have c4b0 : decide (a1 ≤ a0) = true := decide_eq_true c4
  clear c4
  obtain rfl := Option.some.inj H
  go_enter Tryz.func51, Tryz.ntmps51
  go_wp2
  go_ret
  exact ⟨by first | rfl | (simp; done) | (simp [*]; done), by repeat (first | exact Drawn0.refl _ | apply Drawn0.step)⟩
 ·rw [if_neg c4] at H
  have c4b0 : decide (a1 ≤ a0) = false := decide_eq_false c4
  clear c4
  obtain rfl := Option.some.inj H
  go_enter Tryz.func51, Tryz.ntmps51
  go_wp2
  go_ret
  exact ⟨by first | rfl | (simp; done) | (simp [*]; done), by repeat (first | exact Drawn0.refl _ | apply Drawn0.step)⟩

/-! ### spec_ToneValid: function 58 -/
def spec_ToneValid.f (a0_0 : Int) (a0_1 : Bool) : Option (Bool) := (spec_l6In.f a0_0 0 20).bind fun t186 => (if t186 = true then (if a0_1 = true then ((spec_l1Letter.f a0_0).bind fun t187 => (some (t187 == 2))) else (some true)) else (some false))
set_option maxHeartbeats 8000000 in
set_option maxRecDepth 100000 in
theorem spec_ToneValid.calls (a0_0 : Int) (a0_1 : Bool) (r : Bool) (w : World) (h : spec_ToneValid.f a0_0 a0_1 = some r) :
  Calls Tryz.prog 58 #[.agg #[.int .i64 a0_0, .bool a0_1]] w fun e w' => e = .returned (.bool r) ∧ Below w.heap.size w w' := by
 have hu74 := Tryz.underlying74
 have HB := am (Below.refl w.heap.size w)
 have H : ((spec_l6In.f a0_0 0 20).bind fun t186 => (if t186 = true then (if a0_1 = true then ((spec_l1Letter.f a0_0).bind fun t187 => (some (t187 == 2))) else (some true)) else (some false))) = some r := h
 clear h
 replace H := Option.bind_eq_some_iff.mp H
 obtain ⟨t186, A20, H⟩ := H
 replace H : (if t186 = true then (if a0_1 = true then ((spec_l1Letter.f a0_0).bind fun t187 => (some (t187 == 2))) else (some true)) else (some false)) = some r := H
 have A2 := am A20
 clear A20
 by_cases c3 : t186 = true
 ·subst c3
  have H1 : (if a0_1 = true then ((spec_l1Letter.f a0_0).bind fun t187 => (some (t187 == 2))) else (some true)) = some r := by rw [if_pos rfl] at H; exact H
  clear H
  have H := H1
  clear H1
  by_cases c4 : a0_1 = true
  ·subst c4
   have H1 : ((spec_l1Letter.f a0_0).bind fun t187 => (some (t187 == 2))) = some r := by rw [if_pos rfl] at H; exact H
   clear H
   have H := H1
   clear H1
   replace H := Option.bind_eq_some_iff.mp H
   obtain ⟨t187, A50, H⟩ := H
   replace H : (some (t187 == 2)) = some r := H
   have A5 := am A50
   clear A50
   obtain rfl := Option.some.inj H
   go_enter Tryz.func58, Tryz.ntmps58
   go_wp2_with (first | ((with_reducible refine gate_dst (N := 1) rfl ?_); refine box_event ?hg (N := 1) ?hd (cs := #[.int .i64 a0_0, .bool true]) (t := 74) ?hr ?_; (case hd => rfl); (case hg => rfl); (case hr => first | (go_simp; done) | (go_simp; rfl)); intro gb185 hg w6 hbox hb; have n0_ := am (below_step (bu HB.out) hb); have n1_ := am (hbox); have n2_ := am ((by rw [hg]; exact (below_size (bu HB.out)) : w.heap.size ≤ gb185)); have n3_ := am ((by rw [hg]; exact (below_size (bu HB.out)) : w.heap.size ≤ gb185)); clear HB; have HB := n0_; have BK185 := n1_; have GW185 := n2_; have GE185 := n3_; clear n0_ n1_ n2_ n3_; clear hb hbox hg; have hcz7_0 : w6.cell? ⟨gb185, 0, none⟩ = some (.int .i64 a0_0) := (blk_cell BK185.out 0).trans rfl; have hcz7_1 : w6.cell? ⟨gb185, 1, none⟩ = some (.bool true) := (blk_cell BK185.out 1).trans rfl; have hfz7_0 := blk_frozen BK185.out 0; have hfz7_1 := blk_frozen BK185.out 1) | ((with_reducible refine gate_callee (f := 51) rfl ?_); refine goesL_ (some 5) rfl rfl Tryz.func51 (by kernel_rfl) rfl #[.int .i64 a0_0, .int .i64 0, .int .i64 20] rfl (by (try simp only [List.map_toArray, List.map_cons, List.map_nil]); first | done | rfl | (simp only [List.length_drop, List.length_take]; rfl)) ?_; (with_reducible refine (spec_l6In.calls a0_0 0 20 true _ A2.out).mono ?_); rintro e w' ⟨rfl, ⟨nd, rfl⟩⟩; refine ⟨_, rfl, ?_⟩) | (go_at_call 90; (with_reducible refine (spec_l1Letter.calls a0_0 t187 _ A5.out).mono ?_); rintro e w' ⟨rfl, ⟨nd, rfl⟩⟩))
   go_ret
   exact ⟨by first | rfl | (simp [errW_none, errW_some] <;> rfl) | (simp [*, errW_none, errW_some] <;> rfl), bu HB.out⟩
  ·replace c4 := Bool.eq_false_iff.mpr c4
   subst c4
   have H1 : (some true) = some r := by rw [if_neg (show ¬ (false = true) by decide)] at H; exact H
   clear H
   have H := H1
   clear H1
   obtain rfl := Option.some.inj H
   go_enter Tryz.func58, Tryz.ntmps58
   go_wp2_with (first | ((with_reducible refine gate_dst (N := 1) rfl ?_); refine box_event ?hg (N := 1) ?hd (cs := #[.int .i64 a0_0, .bool false]) (t := 74) ?hr ?_; (case hd => rfl); (case hg => rfl); (case hr => first | (go_simp; done) | (go_simp; rfl)); intro gb185 hg w8 hbox hb; have n0_ := am (below_step (bu HB.out) hb); have n1_ := am (hbox); have n2_ := am ((by rw [hg]; exact (below_size (bu HB.out)) : w.heap.size ≤ gb185)); have n3_ := am ((by rw [hg]; exact (below_size (bu HB.out)) : w.heap.size ≤ gb185)); clear HB; have HB := n0_; have BK185 := n1_; have GW185 := n2_; have GE185 := n3_; clear n0_ n1_ n2_ n3_; clear hb hbox hg; have hcz9_0 : w8.cell? ⟨gb185, 0, none⟩ = some (.int .i64 a0_0) := (blk_cell BK185.out 0).trans rfl; have hcz9_1 : w8.cell? ⟨gb185, 1, none⟩ = some (.bool false) := (blk_cell BK185.out 1).trans rfl; have hfz9_0 := blk_frozen BK185.out 0; have hfz9_1 := blk_frozen BK185.out 1) | ((with_reducible refine gate_callee (f := 51) rfl ?_); refine goesL_ (some 5) rfl rfl Tryz.func51 (by kernel_rfl) rfl #[.int .i64 a0_0, .int .i64 0, .int .i64 20] rfl (by (try simp only [List.map_toArray, List.map_cons, List.map_nil]); first | done | rfl | (simp only [List.length_drop, List.length_take]; rfl)) ?_; (with_reducible refine (spec_l6In.calls a0_0 0 20 true _ A2.out).mono ?_); rintro e w' ⟨rfl, ⟨nd, rfl⟩⟩; refine ⟨_, rfl, ?_⟩))
   go_ret
   exact ⟨by first | rfl | (simp [errW_none, errW_some] <;> rfl) | (simp [*, errW_none, errW_some] <;> rfl), bu HB.out⟩
 ·replace c3 := Bool.eq_false_iff.mpr c3
  subst c3
  have H1 : (some false) = some r := by rw [if_neg (show ¬ (false = true) by decide)] at H; exact H
  clear H
  have H := H1
  clear H1
  obtain rfl := Option.some.inj H
  go_enter Tryz.func58, Tryz.ntmps58
  go_wp2_with (first | ((with_reducible refine gate_dst (N := 1) rfl ?_); refine box_event ?hg (N := 1) ?hd (cs := #[.int .i64 a0_0, .bool a0_1]) (t := 74) ?hr ?_; (case hd => rfl); (case hg => rfl); (case hr => first | (go_simp; done) | (go_simp; rfl)); intro gb185 hg w10 hbox hb; have n0_ := am (below_step (bu HB.out) hb); have n1_ := am (hbox); have n2_ := am ((by rw [hg]; exact (below_size (bu HB.out)) : w.heap.size ≤ gb185)); have n3_ := am ((by rw [hg]; exact (below_size (bu HB.out)) : w.heap.size ≤ gb185)); clear HB; have HB := n0_; have BK185 := n1_; have GW185 := n2_; have GE185 := n3_; clear n0_ n1_ n2_ n3_; clear hb hbox hg; have hcz11_0 : w10.cell? ⟨gb185, 0, none⟩ = some (.int .i64 a0_0) := (blk_cell BK185.out 0).trans rfl; have hcz11_1 : w10.cell? ⟨gb185, 1, none⟩ = some (.bool a0_1) := (blk_cell BK185.out 1).trans rfl; have hfz11_0 := blk_frozen BK185.out 0; have hfz11_1 := blk_frozen BK185.out 1) | ((with_reducible refine gate_callee (f := 51) rfl ?_); refine goesL_ (some 5) rfl rfl Tryz.func51 (by kernel_rfl) rfl #[.int .i64 a0_0, .int .i64 0, .int .i64 20] rfl (by (try simp only [List.map_toArray, List.map_cons, List.map_nil]); first | done | rfl | (simp only [List.length_drop, List.length_take]; rfl)) ?_; (with_reducible refine (spec_l6In.calls a0_0 0 20 false _ A2.out).mono ?_); rintro e w' ⟨rfl, ⟨nd, rfl⟩⟩; refine ⟨_, rfl, ?_⟩))
  go_ret
  exact ⟨by first | rfl | (simp [errW_none, errW_some] <;> rfl) | (simp [*, errW_none, errW_some] <;> rfl), bu HB.out⟩

/-! ### spec_MelodyValid: function 57 -/
def spec_MelodyValid.l0 : Nat → List (S74) → Int → Option (Bool)
 | 0, _, _ => none
 | k + 1, x0, x3 => if x3 < (x0.length : Int) then (if 0 ≤ x3 then ((spec_ToneValid.f ((rd_T74 x0 x3).f0) ((rd_T74 x0 x3).f1)).bind fun t189 => (if t189 = true then (spec_MelodyValid.l0 k x0 (wrap64 (x3 + 1))) else (some false))) else (none)) else (some (decide ((x0.length : Int) ≤ 24)))
def spec_MelodyValid.f (k : Nat) (l0 : List (S74)) : Option (Bool) := spec_MelodyValid.l0 k l0 0
set_option maxHeartbeats 8000000 in
set_option maxRecDepth 100000 in
theorem spec_MelodyValid.calls (k : Nat) (A0 : Option Addr) (c0 : Nat) (l0 : List (S74)) (r : Bool) (w : World) (hr0 : Kd.C k74 w A0 l0.length l0) (hc0 : l0.length ≤ c0) (h : spec_MelodyValid.f k l0 = some r) :
  Calls Tryz.prog 57 #[.slice A0 l0.length c0] w fun e w' => e = .returned (.bool r) ∧ Below w.heap.size w w' := by
 have hu74 := Tryz.underlying74
 have HR0 := am hr0
 have HC0 := am hc0
 clear hr0 hc0
 have HB := am (Below.refl w.heap.size w)
 have H : (spec_MelodyValid.l0 k l0 0) = some r := h
 clear h
 have H' := am H
 clear H
 go_enter Tryz.func57, Tryz.ntmps57
 go_wp2
 go_loopg [3] k (fun kq v3 w' => ∃ (x3_1 : Int), v3 = .int .i64 x3_1 ∧ Aside0 (spec_MelodyValid.l0 kq l0 x3_1 = some r) ∧ Aside0 (kq ≤ k) ∧ Aside0 (Below w.heap.size w w'))
 case atStart => exact ⟨(0), (by first | rfl | (simp; done) | (simp [*]; done)), H', ⟨Nat.le_refl _⟩, ⟨bu HB.out⟩⟩
 case round =>
  clear H'
  obtain ⟨x3_1, rfl, HA, HK1, HB⟩ := hrel
  cases gk with
  | zero => exact absurd HA.out (by simp [spec_MelodyValid.l0])
  | succ k1 =>
   have H := HA.out
   clear HA
   simp only [spec_MelodyValid.l0] at H
   by_cases c2 : x3_1 < (l0.length : Int)
   ·rw [if_pos c2] at H
    have c2b0 : decide (x3_1 < (l0.length : Int)) = true := decide_eq_true c2
    clear c2
    by_cases c3 : 0 ≤ x3_1
    ·rw [if_pos c3] at H
     have c3b0 : decide (0 ≤ x3_1) = true := decide_eq_true c3
     clear c3
     replace H := Option.bind_eq_some_iff.mp H
     obtain ⟨t189, A40, H⟩ := H
     replace H : (if t189 = true then (spec_MelodyValid.l0 k1 l0 (wrap64 (x3_1 + 1))) else (some false)) = some r := H
     have A4 := am A40
     clear A40
     by_cases c5 : t189 = true
     ·subst c5
      have H1 : (spec_MelodyValid.l0 k1 l0 (wrap64 (x3_1 + 1))) = some r := by rw [if_pos rfl] at H; exact H
      clear H
      have H := H1
      clear H1
      have H' := am H
      clear H
      have p188 : 0 ≤ (x3_1 : Int) := od
      have q188 : x3_1 < (l0.length : Int) := od
      obtain ⟨ad188, e188, hx188_0, hx188_1⟩ := at_T74 HR0.out x3_1 p188 q188
      cases e188
      replace hx188_0 := (HB.out.cell (World.block_lt_of_cell? w _ hx188_0)).trans hx188_0
      replace hx188_1 := (HB.out.cell (World.block_lt_of_cell? w _ hx188_1)).trans hx188_1
      replace p188 := eq_true p188
      replace q188 := eq_true q188
      go_wp2_with (first | ((with_reducible refine gate_callee (f := 58) rfl ?_); refine goesL_ (some 14) rfl rfl Tryz.func58 (by kernel_rfl) rfl #[.agg #[.int .i64 ((rd_T74 l0 x3_1).f0), .bool ((rd_T74 l0 x3_1).f1)]] rfl (by (try simp only [List.map_toArray, List.map_cons, List.map_nil]); first | done | rfl | (simp only [List.length_drop, List.length_take]; rfl)) ?_; (with_reducible refine (spec_ToneValid.calls ((rd_T74 l0 x3_1).f0) ((rd_T74 l0 x3_1).f1) true _ A4.out).mono ?_); rintro e w6 ⟨rfl, hb⟩; refine ⟨_, rfl, ?_⟩; have n0_ := am (below_step (bu HB.out) hb); clear HB; have HB := n0_; clear n0_; (try clear hb); (try clear hb2); (try clear hk); (try clear hi)))
      go_roundg k1
      case measure => have := HK1.out; omega
      case rel => exact ⟨(wrap64 (x3_1 + 1)), (by first | rfl | (simp; done) | (simp [*]; done)), H', ⟨by have := HK1.out; omega⟩, ⟨bu HB.out⟩⟩
     ·replace c5 := Bool.eq_false_iff.mpr c5
      subst c5
      have H1 : (some false) = some r := by rw [if_neg (show ¬ (false = true) by decide)] at H; exact H
      clear H
      have H := H1
      clear H1
      obtain rfl := Option.some.inj H
      have p188 : 0 ≤ (x3_1 : Int) := od
      have q188 : x3_1 < (l0.length : Int) := od
      obtain ⟨ad188, e188, hx188_0, hx188_1⟩ := at_T74 HR0.out x3_1 p188 q188
      cases e188
      replace hx188_0 := (HB.out.cell (World.block_lt_of_cell? w _ hx188_0)).trans hx188_0
      replace hx188_1 := (HB.out.cell (World.block_lt_of_cell? w _ hx188_1)).trans hx188_1
      replace p188 := eq_true p188
      replace q188 := eq_true q188
      go_wp2_with (first | ((with_reducible refine gate_callee (f := 58) rfl ?_); refine goesL_ (some 14) rfl rfl Tryz.func58 (by kernel_rfl) rfl #[.agg #[.int .i64 ((rd_T74 l0 x3_1).f0), .bool ((rd_T74 l0 x3_1).f1)]] rfl (by (try simp only [List.map_toArray, List.map_cons, List.map_nil]); first | done | rfl | (simp only [List.length_drop, List.length_take]; rfl)) ?_; (with_reducible refine (spec_ToneValid.calls ((rd_T74 l0 x3_1).f0) ((rd_T74 l0 x3_1).f1) false _ A4.out).mono ?_); rintro e w7 ⟨rfl, hb⟩; refine ⟨_, rfl, ?_⟩; have n0_ := am (below_step (bu HB.out) hb); clear HB; have HB := n0_; clear n0_; (try clear hb); (try clear hb2); (try clear hk); (try clear hi)))
      go_ret
      exact ⟨by first | rfl | (simp [errW_none, errW_some] <;> rfl) | (simp [*, errW_none, errW_some] <;> rfl), bu HB.out⟩
    ·rw [if_neg c3] at H
     exact absurd H (by simp)
   ·rw [if_neg c2] at H
    have c2b0 : decide (x3_1 < (l0.length : Int)) = false := decide_eq_false c2
    clear c2
    obtain rfl := Option.some.inj H
    go_wp2
    go_ret
    exact ⟨by first | rfl | (simp [errW_none, errW_some] <;> rfl) | (simp [*, errW_none, errW_some] <;> rfl), bu HB.out⟩

/-! ### spec_l1Height: function 60 -/
def spec_l1Height.f (a0_0 : Int) (a0_1 : Bool) : Option (Int) := (some (([0, 2, 4, 5, 7, 9, 10] : List Int) : List Int)).bind fun y191 => ((spec_l1Letter.f a0_0).bind fun t194 => (if 0 ≤ t194 then (if t194 < (y191.length : Int) then (if a0_1 = true then (some (wrap64 ((wrap64 ((wrap64 (12 * (wrap64 (Int.tdiv a0_0 7)))) + (rd y191 t194))) - 1))) else (some (wrap64 ((wrap64 (12 * (wrap64 (Int.tdiv a0_0 7)))) + (rd y191 t194))))) else (none)) else (none)))
def spec_l1Height.T1 : Bool × List (List Nat × List Nat) := (true, [([], []), ([0], [0]), ([1], [1]), ([2], [2]), ([], []), ([], []), ([5], [5]), ([6], [6]), ([4, 7], [4, 7]), ([8], [8]), ([3, 9], [3, 9]), ([10, 7, 0, 1, 2, 3, 4, 5, 6, 7, 8, 9, 10], [10])])
def spec_l1Height.B1 : List Nat := [0, 1, 3, 7, 0, 0, 32, 96, 240, 496, 1023, 2047]
theorem spec_l1Height.tab1 : rtab .any (opsOf Tryz.f60 1) = spec_l1Height.T1 := by kernel_rfl
theorem spec_l1Height.bits1 : waitsOk spec_l1Height.T1.2 spec_l1Height.B1 = true := by kernel_rfl
set_option maxHeartbeats 8000000 in
set_option maxRecDepth 100000 in
theorem spec_l1Height.calls (a0_0 : Int) (a0_1 : Bool) (r : Int) (w : World) (h : spec_l1Height.f a0_0 a0_1 = some r) :
  Calls Tryz.prog 60 #[.agg #[.int .i64 a0_0, .bool a0_1]] w fun e w' => e = .returned (.int .i64 r) ∧ Below w.heap.size w w' := by
 have hu74 := Tryz.underlying74
 have HB := am (Below.refl w.heap.size w)
 have H : ((some (([0, 2, 4, 5, 7, 9, 10] : List Int) : List Int)).bind fun y191 => ((spec_l1Letter.f a0_0).bind fun t194 => (if 0 ≤ t194 then (if t194 < (y191.length : Int) then (if a0_1 = true then (some (wrap64 ((wrap64 ((wrap64 (12 * (wrap64 (Int.tdiv a0_0 7)))) + (rd y191 t194))) - 1))) else (some (wrap64 ((wrap64 (12 * (wrap64 (Int.tdiv a0_0 7)))) + (rd y191 t194))))) else (none)) else (none)))) = some r := h
 clear h
 obtain ⟨y191, hy191⟩ : ∃ y_ : List Int, y_ = (([0, 2, 4, 5, 7, 9, 10] : List Int)) := ⟨_, rfl⟩
 replace H : ((spec_l1Letter.f a0_0).bind fun t194 => (if 0 ≤ t194 then (if t194 < (y191.length : Int) then (if a0_1 = true then (some (wrap64 ((wrap64 ((wrap64 (12 * (wrap64 (Int.tdiv a0_0 7)))) + (rd y191 t194))) - 1))) else (some (wrap64 ((wrap64 (12 * (wrap64 (Int.tdiv a0_0 7)))) + (rd y191 t194))))) else (none)) else (none))) = some r := by first | (rw [hy191]; with_reducible exact H) | (have H2_ := (Option.bind_some _ _).symm.trans H; rw [hy191]; with_reducible exact H2_) | (have H2_ := (Option.bind_some _ _).symm.trans H; with_reducible exact H2_) | with_reducible exact H | (rw [hy191]; exact H) | exact H
 have Ny191 := am hy191
 clear hy191
 replace H := Option.bind_eq_some_iff.mp H
 obtain ⟨t194, A20, H⟩ := H
 replace H : (if 0 ≤ t194 then (if t194 < (y191.length : Int) then (if a0_1 = true then (some (wrap64 ((wrap64 ((wrap64 (12 * (wrap64 (Int.tdiv a0_0 7)))) + (rd y191 t194))) - 1))) else (some (wrap64 ((wrap64 (12 * (wrap64 (Int.tdiv a0_0 7)))) + (rd y191 t194))))) else (none)) else (none)) = some r := H
 have A2 := am A20
 clear A20
 by_cases c3 : 0 ≤ t194
 ·rw [if_pos c3] at H
  have c3b0 : decide (0 ≤ t194) = true := decide_eq_true c3
  clear c3
  by_cases c4 : t194 < (y191.length : Int)
  ·rw [if_pos c4] at H
   have c4b0 : decide (t194 < (y191.length : Int)) = true := decide_eq_true c4
   clear c4
   by_cases c5 : a0_1 = true
   ·subst c5
    have H1 : (some (wrap64 ((wrap64 ((wrap64 (12 * (wrap64 (Int.tdiv a0_0 7)))) + (rd y191 t194))) - 1))) = some r := by rw [if_pos rfl] at H; exact H
    clear H
    have H := H1
    clear H1
    obtain rfl := Option.some.inj H
    go_enter Tryz.func60, Tryz.ntmps60
    try go_wp2_with (first | ((with_reducible refine gate_dst (N := 1) rfl ?_); refine box_event ?hg (N := 1) ?hd (cs := #[.int .i64 a0_0, .bool true]) (t := 74) ?hr ?_; (case hd => rfl); (case hg => rfl); (case hr => first | (go_simp; done) | (go_simp; rfl)); intro gb190 hg w6 hbox hb; have n0_ := am (below_step (bu HB.out) hb); have n1_ := am (hbox); have n2_ := am ((by rw [hg]; exact (below_size (bu HB.out)) : w.heap.size ≤ gb190)); have n3_ := am ((by rw [hg]; exact (below_size (bu HB.out)) : w.heap.size ≤ gb190)); clear HB; have HB := n0_; have BK190 := n1_; have GW190 := n2_; have GE190 := n3_; clear n0_ n1_ n2_ n3_; clear hb hbox hg))
    have pi195 : (0 ≤ (t194 : Int)) = True := eq_true (od)
    have qi195 : (t194 < (y191.length : Int)) = True := eq_true (od)
    have n0_ := am (blk_drew BK190.out)
    have n1_ := am (below_drew1 HB.out)
    clear BK190
    clear HB
    have BK190 := n0_
    have HB := n1_
    clear n0_ n1_
    refine start_ (n := 12) (S := fun w' => w'.cell? ⟨gb190, 0, none⟩ = some (.int .i64 a0_0) ∧ w'.cell? ⟨gb190, 1, none⟩ = some (.bool true)) (ds := []) #[F,F,F,F,F,F,F,F,F,F,F,F] (by kernel_rfl) rfl rfl ⟨(blk_cell BK190.out 0).trans rfl, (blk_cell BK190.out 1).trans rfl⟩ (fun hHeld => ?_); refine with_tabW spec_l1Height.tab1 spec_l1Height.bits1 (fun HT_ HW_ => ?_)
    generalize w6.drew = w7 at BK190 HB hHeld ⊢
    refine pz 0 (some 4) #[T,F,F,F,F,F,F,F,F,F,F,F] (any_of HT_.out (by kernel_rfl)) (h := ?_)
    refine pz 5 (some 9) #[T,F,F,F,F,T,F,F,F,F,F,F] (any_of HT_.out (by kernel_rfl)) (h := ?_)
    refine tz hHeld 1 (some 5) #[T,T,F,F,F,T,F,F,F,F,F,F] (take_ofW HT_.out HW_.out (by kernel_rfl)) (h := ?_)
    refine pz 2 (some 6) #[T,T,T,F,F,T,F,F,F,F,F,F] (any_of HT_.out (by kernel_rfl)) (h := ?_)
    refine pz 3 (some 7) #[T,T,T,T,F,T,F,F,F,F,F,F] (any_of HT_.out (by kernel_rfl)) (h := ?_)
    refine tz hHeld 6 (some 10) #[T,T,T,T,F,T,T,F,F,F,F,F] (take_ofW HT_.out HW_.out (by kernel_rfl)) (h := ?_)
    refine join_ (σ := Value × Addr) 4 #[T,T,T,T,T,T,T,T,F,F,F,F] (fun s_ => [(8, s_.1), (11, .int .i64 t194)]) (fun s_ w' => (w'.cell? ⟨gb190, 0, none⟩ = some (.int .i64 a0_0) ∧ w'.cell? ⟨gb190, 1, none⟩ = some (.bool true)) ∧ (Kd.R (Kd.int .i64) 3 w' w.heap.size (fun _ => True) s_.1 y191) ∧ (∃ c_, (s_.1 : Value) = .slice (some s_.2) y191.length c_) ∧ (w'.heap[gb190]? = some (.cells #[.int .i64 a0_0, .bool true] 74 (0, 0))) ∧ (Below w.heap.size w w')) ?_ ?_
    rotate_left
    ·intro hCont
     refine two_ (i := 4) (j := 7) (Ni := some 8) (Nj := some 11) #[T,T,T,T,T,T,T,F,F,F,F,F] #[T,T,T,T,F,T,T,T,F,F,F,F] rfl rfl rfl rfl (two_of HT_.out (by kernel_rfl)) (by decide) (by decide) (fun K hK => ?_) (fun K hK => ?_)
     ·skip
      refine Kd.R_lit_step (Kd.int .i64) _ 3 ?hg (N := 8) ?hd (xs := ([0, 2, 4, 5, 7, 9, 10] : List Int)) (inner := [.int .i64 0, .int .i64 2, .int .i64 4, .int .i64 5, .int .i64 7, .int .i64 9, .int .i64 10]) (ok := fun _ => True) (okp := fun _ => True) ?hr ?hp (fun _ hk => hk) trivial (Below.refl _ _) (Nat.le_refl _) (by simp) ?_; (case hd => rfl); (case hg => rfl); (case hr => first | (go_simp; done) | (go_simp; rfl)); (case hp => exact (Reps.one (show Kd.M (Kd.int .i64) _ _ _ 0 [.int .i64 0] from rfl) (Reps.one (show Kd.M (Kd.int .i64) _ _ _ 2 [.int .i64 2] from rfl) (Reps.one (show Kd.M (Kd.int .i64) _ _ _ 4 [.int .i64 4] from rfl) (Reps.one (show Kd.M (Kd.int .i64) _ _ _ 5 [.int .i64 5] from rfl) (Reps.one (show Kd.M (Kd.int .i64) _ _ _ 7 [.int .i64 7] from rfl) (Reps.one (show Kd.M (Kd.int .i64) _ _ _ 9 [.int .i64 9] from rfl) (Reps.one (show Kd.M (Kd.int .i64) _ _ _ 10 [.int .i64 10] from rfl) (Reps.none _ _)))))))))
      intro v192 w8 ho9 hb hg_ hnew_
      clear hg_ hnew_
      (first | rw [← Ny191.out] at ho9 | (simp only [Int.reduceToNat] at ho9; rw [← Ny191.out] at ho9))
      have n0_ := am (Kd.R_lower ho9 (below_size (bu HB.out)))
      have n1_ := am (blk_below (g := gb190) (o := .cells #[.int .i64 a0_0, .bool true] 74 (0, 0)) (gu BK190.out) hb)
      have n2_ := am (below_step (bu HB.out) hb)
      clear BK190
      clear HB
      have HO193 := n0_
      have BK190 := n1_
      have HB := n2_
      clear n0_ n1_ n2_
      clear hb ho9
      obtain ⟨Ao10, co10, eo10⟩ := Kd.R_slice HO193.out
      subst eo10
      obtain ⟨ado10, fo10, _⟩ := Kd.at_int (Kd.R_reads' HO193.out).2.2 0 (by decide) (by rw [Ny191.out]; simp)
      cases fo10
      refine hK.out _ _ ⟨(blk_cell BK190.out 0).trans rfl, (blk_cell BK190.out 1).trans rfl⟩ (fun hHeld => ?_)
      clear hK K
      refine norm_ (a' := ?_) ?_ ?_
      rotate_left
      ·show Act.put _ (some 8) _ = _
       simp only [Act.put, sA, sZ, sS, i64_w, i32_w]
       rfl
      refine one_ (i := 7) (N := some 11) #[T,T,T,T,T,T,T,T,F,F,F,F] rfl rfl (one_of HT_.out (by kernel_rfl)) (by decide) (fun K hK => ?_)
      refine goes_ Tryz.func90 (by kernel_rfl) rfl #[.int .i64 a0_0] (by rfl) rfl rfl (by (try simp only [List.map_toArray, List.map_cons, List.map_nil]); first | done | rfl | (simp only [List.length_drop, List.length_take]; rfl)) ?_
      with_reducible refine (spec_l1Letter.calls a0_0 t194 _ A2.out).mono ?_
      rintro e w' ⟨rfl, ⟨nd, rfl⟩⟩
      refine ⟨_, rfl, ?_⟩
      refine hK.out _ _ ⟨(blk_cell BK190.out 0).trans rfl, (blk_cell BK190.out 1).trans rfl⟩ (fun hHeld => ?_)
      clear hK K
      refine norm_ (a' := ?_) ?_ ?_
      rotate_left
      ·show Act.put _ (some 11) _ = _
       simp only [Act.put, sA, sZ, sS, i64_w, i32_w]
       rfl
      exact norm_ (by simp only [putAll, Act.put, sA, sZ, sS]) (hCont (.slice (some ado10) y191.length co10, ado10) _ ⟨hHeld, (ru HO193.out), ⟨_, rfl⟩, (gu BK190.out), (bu HB.out)⟩)
     ·skip
      refine goes_ Tryz.func90 (by kernel_rfl) rfl #[.int .i64 a0_0] (by rfl) rfl rfl (by (try simp only [List.map_toArray, List.map_cons, List.map_nil]); first | done | rfl | (simp only [List.length_drop, List.length_take]; rfl)) ?_
      with_reducible refine (spec_l1Letter.calls a0_0 t194 _ A2.out).mono ?_
      rintro e w' ⟨rfl, ⟨nd, rfl⟩⟩
      refine ⟨_, rfl, ?_⟩
      refine hK.out _ _ ⟨(blk_cell BK190.out 0).trans rfl, (blk_cell BK190.out 1).trans rfl⟩ (fun hHeld => ?_)
      clear hK K
      refine norm_ (a' := ?_) ?_ ?_
      rotate_left
      ·show Act.put _ (some 11) _ = _
       simp only [Act.put, sA, sZ, sS, i64_w, i32_w]
       rfl
      refine one_ (i := 4) (N := some 8) #[T,T,T,T,T,T,T,T,F,F,F,F] rfl rfl (one_of HT_.out (by kernel_rfl)) (by decide) (fun K hK => ?_)
      refine Kd.R_lit_step (Kd.int .i64) _ 3 ?hg (N := 8) ?hd (xs := ([0, 2, 4, 5, 7, 9, 10] : List Int)) (inner := [.int .i64 0, .int .i64 2, .int .i64 4, .int .i64 5, .int .i64 7, .int .i64 9, .int .i64 10]) (ok := fun _ => True) (okp := fun _ => True) ?hr ?hp (fun _ hk => hk) trivial (Below.refl _ _) (Nat.le_refl _) (by simp) ?_; (case hd => rfl); (case hg => rfl); (case hr => first | (go_simp; done) | (go_simp; rfl)); (case hp => exact (Reps.one (show Kd.M (Kd.int .i64) _ _ _ 0 [.int .i64 0] from rfl) (Reps.one (show Kd.M (Kd.int .i64) _ _ _ 2 [.int .i64 2] from rfl) (Reps.one (show Kd.M (Kd.int .i64) _ _ _ 4 [.int .i64 4] from rfl) (Reps.one (show Kd.M (Kd.int .i64) _ _ _ 5 [.int .i64 5] from rfl) (Reps.one (show Kd.M (Kd.int .i64) _ _ _ 7 [.int .i64 7] from rfl) (Reps.one (show Kd.M (Kd.int .i64) _ _ _ 9 [.int .i64 9] from rfl) (Reps.one (show Kd.M (Kd.int .i64) _ _ _ 10 [.int .i64 10] from rfl) (Reps.none _ _)))))))))
      intro v192 w8 ho9 hb hg_ hnew_
      clear hg_ hnew_
      (first | rw [← Ny191.out] at ho9 | (simp only [Int.reduceToNat] at ho9; rw [← Ny191.out] at ho9))
      have n0_ := am (Kd.R_lower ho9 (below_size (bu HB.out)))
      have n1_ := am (blk_below (g := gb190) (o := .cells #[.int .i64 a0_0, .bool true] 74 (0, 0)) (gu BK190.out) hb)
      have n2_ := am (below_step (bu HB.out) hb)
      clear BK190
      clear HB
      have HO193 := n0_
      have BK190 := n1_
      have HB := n2_
      clear n0_ n1_ n2_
      clear hb ho9
      obtain ⟨Ao10, co10, eo10⟩ := Kd.R_slice HO193.out
      subst eo10
      obtain ⟨ado10, fo10, _⟩ := Kd.at_int (Kd.R_reads' HO193.out).2.2 0 (by decide) (by rw [Ny191.out]; simp)
      cases fo10
      refine hK.out _ _ ⟨(blk_cell BK190.out 0).trans rfl, (blk_cell BK190.out 1).trans rfl⟩ (fun hHeld => ?_)
      clear hK K
      refine norm_ (a' := ?_) ?_ ?_
      rotate_left
      ·show Act.put _ (some 8) _ = _
       simp only [Act.put, sA, sZ, sS, i64_w, i32_w]
       rfl
      exact norm_ (by simp only [putAll, Act.put, sA, sZ, sS]) (hCont (.slice (some ado10) y191.length co10, ado10) _ ⟨hHeld, (ru HO193.out), ⟨_, rfl⟩, (gu BK190.out), (bu HB.out)⟩)
    rintro ⟨v192, adz_v192⟩ w11 ⟨hS_, h0_, h1_, h2_, h3_⟩
    have n0_ : Aside0 (Kd.R (Kd.int .i64) 3 w11 w.heap.size (fun _ => True) v192 y191) := ⟨h0_⟩
    have n1_ : Aside0 (∃ c_, (v192 : Value) = .slice (some adz_v192) y191.length c_) := ⟨h1_⟩
    have n2_ : Aside0 (w11.heap[gb190]? = some (.cells #[.int .i64 a0_0, .bool true] 74 (0, 0))) := ⟨h2_⟩
    have n3_ : Aside0 (Below w.heap.size w w11) := ⟨h3_⟩
    clear BK190
    clear HB
    clear h0_ h1_ h2_ h3_
    have HO193 := n0_
    have HA_HO193 := n1_
    have BK190 := n2_
    have HB := n3_
    clear n0_ n1_ n2_ n3_
    have hHeld : w11.cell? ⟨gb190, 0, none⟩ = some (.int .i64 a0_0) ∧ w11.cell? ⟨gb190, 1, none⟩ = some (.bool true) := hS_
    obtain ⟨co12, eo12⟩ := HA_HO193.out
    clear HA_HO193
    subst eo12
    refine norm_ (a' := ?_) ?_ ?_
    rotate_left
    ·simp only [putAll, Act.put, sA, sZ, sS]
     rfl
    refine pz 8 (some 12) #[T,T,T,T,T,T,T,T,T,F,F,F] (any_of HT_.out (by kernel_rfl)) (h := ?_)
    refine one_ (i := 9) (N := some 13) #[T,T,T,T,T,T,T,T,T,T,F,F] rfl rfl (one_of HT_.out (by kernel_rfl)) (by decide) (fun K hK => ?_)
    (have p195 : 0 ≤ (t194 : Int) := od; have q195 : t194 < (y191.length : Int) := od; obtain ⟨ad195, e195, hx195_0⟩ := Kd.at_int (Kd.R_reads' HO193.out).2.2 t194 p195 q195; obtain rfl : adz_v192 = ad195 := (by injection e195))
    refine value_ (w1 := ?_) (v := ?_) (by rfl) rfl ?_ ?_
    rotate_left 2
    ·go_simp
     constructor
     ·rfl
     ·rfl
    clear hx195_0
    refine hK.out _ _ ⟨(blk_cell BK190.out 0).trans rfl, (blk_cell BK190.out 1).trans rfl⟩ (fun hHeld => ?_)
    clear hK K
    refine norm_ (a' := ?_) ?_ ?_
    rotate_left
    ·show Act.put _ (some 13) _ = _
     simp only [Act.put, sA, sZ, sS, i64_w, i32_w]
     rfl
    refine pz 10 (some 14) #[T,T,T,T,T,T,T,T,T,T,T,F] (any_of HT_.out (by kernel_rfl)) (h := ?_)
    refine pz 11 (some 3) #[T,T,T,T,T,T,T,T,T,T,T,T] (any_of HT_.out (by kernel_rfl)) (h := ?_)
    refine done_ (done_of HT_.out (by kernel_rfl)) ?_
    have hcz13_0 : w11.cell? ⟨gb190, 0, none⟩ = some (.int .i64 a0_0) := (blk_cell BK190.out 0).trans rfl
    have hcz13_1 : w11.cell? ⟨gb190, 1, none⟩ = some (.bool true) := (blk_cell BK190.out 1).trans rfl
    have hfz13_0 := blk_frozen BK190.out 0
    have hfz13_1 := blk_frozen BK190.out 1
    try go_wp2
    go_ret
    exact ⟨by first | rfl | (simp [errW_none, errW_some] <;> rfl) | (simp [*, errW_none, errW_some] <;> rfl), bu HB.out⟩
   ·replace c5 := Bool.eq_false_iff.mpr c5
    subst c5
    have H1 : (some (wrap64 ((wrap64 (12 * (wrap64 (Int.tdiv a0_0 7)))) + (rd y191 t194)))) = some r := by rw [if_neg (show ¬ (false = true) by decide)] at H; exact H
    clear H
    have H := H1
    clear H1
    obtain rfl := Option.some.inj H
    go_enter Tryz.func60, Tryz.ntmps60
    try go_wp2_with (first | ((with_reducible refine gate_dst (N := 1) rfl ?_); refine box_event ?hg (N := 1) ?hd (cs := #[.int .i64 a0_0, .bool false]) (t := 74) ?hr ?_; (case hd => rfl); (case hg => rfl); (case hr => first | (go_simp; done) | (go_simp; rfl)); intro gb190 hg w14 hbox hb; have n0_ := am (below_step (bu HB.out) hb); have n1_ := am (hbox); have n2_ := am ((by rw [hg]; exact (below_size (bu HB.out)) : w.heap.size ≤ gb190)); have n3_ := am ((by rw [hg]; exact (below_size (bu HB.out)) : w.heap.size ≤ gb190)); clear HB; have HB := n0_; have BK190 := n1_; have GW190 := n2_; have GE190 := n3_; clear n0_ n1_ n2_ n3_; clear hb hbox hg))
    have pi195 : (0 ≤ (t194 : Int)) = True := eq_true (od)
    have qi195 : (t194 < (y191.length : Int)) = True := eq_true (od)
    have n0_ := am (blk_drew BK190.out)
    have n1_ := am (below_drew1 HB.out)
    clear BK190
    clear HB
    have BK190 := n0_
    have HB := n1_
    clear n0_ n1_
    refine start_ (n := 12) (S := fun w' => w'.cell? ⟨gb190, 0, none⟩ = some (.int .i64 a0_0) ∧ w'.cell? ⟨gb190, 1, none⟩ = some (.bool false)) (ds := []) #[F,F,F,F,F,F,F,F,F,F,F,F] (by kernel_rfl) rfl rfl ⟨(blk_cell BK190.out 0).trans rfl, (blk_cell BK190.out 1).trans rfl⟩ (fun hHeld => ?_); refine with_tabW spec_l1Height.tab1 spec_l1Height.bits1 (fun HT_ HW_ => ?_)
    generalize w14.drew = w15 at BK190 HB hHeld ⊢
    refine pz 0 (some 4) #[T,F,F,F,F,F,F,F,F,F,F,F] (any_of HT_.out (by kernel_rfl)) (h := ?_)
    refine pz 5 (some 9) #[T,F,F,F,F,T,F,F,F,F,F,F] (any_of HT_.out (by kernel_rfl)) (h := ?_)
    refine tz hHeld 1 (some 5) #[T,T,F,F,F,T,F,F,F,F,F,F] (take_ofW HT_.out HW_.out (by kernel_rfl)) (h := ?_)
    refine pz 2 (some 6) #[T,T,T,F,F,T,F,F,F,F,F,F] (any_of HT_.out (by kernel_rfl)) (h := ?_)
    refine pz 3 (some 7) #[T,T,T,T,F,T,F,F,F,F,F,F] (any_of HT_.out (by kernel_rfl)) (h := ?_)
    refine tz hHeld 6 (some 10) #[T,T,T,T,F,T,T,F,F,F,F,F] (take_ofW HT_.out HW_.out (by kernel_rfl)) (h := ?_)
    refine join_ (σ := Value × Addr) 4 #[T,T,T,T,T,T,T,T,F,F,F,F] (fun s_ => [(8, s_.1), (11, .int .i64 t194)]) (fun s_ w' => (w'.cell? ⟨gb190, 0, none⟩ = some (.int .i64 a0_0) ∧ w'.cell? ⟨gb190, 1, none⟩ = some (.bool false)) ∧ (Kd.R (Kd.int .i64) 3 w' w.heap.size (fun _ => True) s_.1 y191) ∧ (∃ c_, (s_.1 : Value) = .slice (some s_.2) y191.length c_) ∧ (w'.heap[gb190]? = some (.cells #[.int .i64 a0_0, .bool false] 74 (0, 0))) ∧ (Below w.heap.size w w')) ?_ ?_
    rotate_left
    ·intro hCont
     refine two_ (i := 4) (j := 7) (Ni := some 8) (Nj := some 11) #[T,T,T,T,T,T,T,F,F,F,F,F] #[T,T,T,T,F,T,T,T,F,F,F,F] rfl rfl rfl rfl (two_of HT_.out (by kernel_rfl)) (by decide) (by decide) (fun K hK => ?_) (fun K hK => ?_)
     ·skip
      refine Kd.R_lit_step (Kd.int .i64) _ 3 ?hg (N := 8) ?hd (xs := ([0, 2, 4, 5, 7, 9, 10] : List Int)) (inner := [.int .i64 0, .int .i64 2, .int .i64 4, .int .i64 5, .int .i64 7, .int .i64 9, .int .i64 10]) (ok := fun _ => True) (okp := fun _ => True) ?hr ?hp (fun _ hk => hk) trivial (Below.refl _ _) (Nat.le_refl _) (by simp) ?_; (case hd => rfl); (case hg => rfl); (case hr => first | (go_simp; done) | (go_simp; rfl)); (case hp => exact (Reps.one (show Kd.M (Kd.int .i64) _ _ _ 0 [.int .i64 0] from rfl) (Reps.one (show Kd.M (Kd.int .i64) _ _ _ 2 [.int .i64 2] from rfl) (Reps.one (show Kd.M (Kd.int .i64) _ _ _ 4 [.int .i64 4] from rfl) (Reps.one (show Kd.M (Kd.int .i64) _ _ _ 5 [.int .i64 5] from rfl) (Reps.one (show Kd.M (Kd.int .i64) _ _ _ 7 [.int .i64 7] from rfl) (Reps.one (show Kd.M (Kd.int .i64) _ _ _ 9 [.int .i64 9] from rfl) (Reps.one (show Kd.M (Kd.int .i64) _ _ _ 10 [.int .i64 10] from rfl) (Reps.none _ _)))))))))
      intro v192 w16 ho17 hb hg_ hnew_
      clear hg_ hnew_
      (first | rw [← Ny191.out] at ho17 | (simp only [Int.reduceToNat] at ho17; rw [← Ny191.out] at ho17))
      have n0_ := am (Kd.R_lower ho17 (below_size (bu HB.out)))
      have n1_ := am (blk_below (g := gb190) (o := .cells #[.int .i64 a0_0, .bool false] 74 (0, 0)) (gu BK190.out) hb)
      have n2_ := am (below_step (bu HB.out) hb)
      clear BK190
      clear HB
      have HO193 := n0_
      have BK190 := n1_
      have HB := n2_
      clear n0_ n1_ n2_
      clear hb ho17
      obtain ⟨Ao18, co18, eo18⟩ := Kd.R_slice HO193.out
      subst eo18
      obtain ⟨ado18, fo18, _⟩ := Kd.at_int (Kd.R_reads' HO193.out).2.2 0 (by decide) (by rw [Ny191.out]; simp)
      cases fo18
      refine hK.out _ _ ⟨(blk_cell BK190.out 0).trans rfl, (blk_cell BK190.out 1).trans rfl⟩ (fun hHeld => ?_)
      clear hK K
      refine norm_ (a' := ?_) ?_ ?_
      rotate_left
      ·show Act.put _ (some 8) _ = _
       simp only [Act.put, sA, sZ, sS, i64_w, i32_w]
       rfl
      refine one_ (i := 7) (N := some 11) #[T,T,T,T,T,T,T,T,F,F,F,F] rfl rfl (one_of HT_.out (by kernel_rfl)) (by decide) (fun K hK => ?_)
      refine goes_ Tryz.func90 (by kernel_rfl) rfl #[.int .i64 a0_0] (by rfl) rfl rfl (by (try simp only [List.map_toArray, List.map_cons, List.map_nil]); first | done | rfl | (simp only [List.length_drop, List.length_take]; rfl)) ?_
      with_reducible refine (spec_l1Letter.calls a0_0 t194 _ A2.out).mono ?_
      rintro e w' ⟨rfl, ⟨nd, rfl⟩⟩
      refine ⟨_, rfl, ?_⟩
      refine hK.out _ _ ⟨(blk_cell BK190.out 0).trans rfl, (blk_cell BK190.out 1).trans rfl⟩ (fun hHeld => ?_)
      clear hK K
      refine norm_ (a' := ?_) ?_ ?_
      rotate_left
      ·show Act.put _ (some 11) _ = _
       simp only [Act.put, sA, sZ, sS, i64_w, i32_w]
       rfl
      exact norm_ (by simp only [putAll, Act.put, sA, sZ, sS]) (hCont (.slice (some ado18) y191.length co18, ado18) _ ⟨hHeld, (ru HO193.out), ⟨_, rfl⟩, (gu BK190.out), (bu HB.out)⟩)
     ·skip
      refine goes_ Tryz.func90 (by kernel_rfl) rfl #[.int .i64 a0_0] (by rfl) rfl rfl (by (try simp only [List.map_toArray, List.map_cons, List.map_nil]); first | done | rfl | (simp only [List.length_drop, List.length_take]; rfl)) ?_
      with_reducible refine (spec_l1Letter.calls a0_0 t194 _ A2.out).mono ?_
      rintro e w' ⟨rfl, ⟨nd, rfl⟩⟩
      refine ⟨_, rfl, ?_⟩
      refine hK.out _ _ ⟨(blk_cell BK190.out 0).trans rfl, (blk_cell BK190.out 1).trans rfl⟩ (fun hHeld => ?_)
      clear hK K
      refine norm_ (a' := ?_) ?_ ?_
      rotate_left
      ·show Act.put _ (some 11) _ = _
       simp only [Act.put, sA, sZ, sS, i64_w, i32_w]
       rfl
      refine one_ (i := 4) (N := some 8) #[T,T,T,T,T,T,T,T,F,F,F,F] rfl rfl (one_of HT_.out (by kernel_rfl)) (by decide) (fun K hK => ?_)
      refine Kd.R_lit_step (Kd.int .i64) _ 3 ?hg (N := 8) ?hd (xs := ([0, 2, 4, 5, 7, 9, 10] : List Int)) (inner := [.int .i64 0, .int .i64 2, .int .i64 4, .int .i64 5, .int .i64 7, .int .i64 9, .int .i64 10]) (ok := fun _ => True) (okp := fun _ => True) ?hr ?hp (fun _ hk => hk) trivial (Below.refl _ _) (Nat.le_refl _) (by simp) ?_; (case hd => rfl); (case hg => rfl); (case hr => first | (go_simp; done) | (go_simp; rfl)); (case hp => exact (Reps.one (show Kd.M (Kd.int .i64) _ _ _ 0 [.int .i64 0] from rfl) (Reps.one (show Kd.M (Kd.int .i64) _ _ _ 2 [.int .i64 2] from rfl) (Reps.one (show Kd.M (Kd.int .i64) _ _ _ 4 [.int .i64 4] from rfl) (Reps.one (show Kd.M (Kd.int .i64) _ _ _ 5 [.int .i64 5] from rfl) (Reps.one (show Kd.M (Kd.int .i64) _ _ _ 7 [.int .i64 7] from rfl) (Reps.one (show Kd.M (Kd.int .i64) _ _ _ 9 [.int .i64 9] from rfl) (Reps.one (show Kd.M (Kd.int .i64) _ _ _ 10 [.int .i64 10] from rfl) (Reps.none _ _)))))))))
      intro v192 w16 ho17 hb hg_ hnew_
      clear hg_ hnew_
      (first | rw [← Ny191.out] at ho17 | (simp only [Int.reduceToNat] at ho17; rw [← Ny191.out] at ho17))
      have n0_ := am (Kd.R_lower ho17 (below_size (bu HB.out)))
      have n1_ := am (blk_below (g := gb190) (o := .cells #[.int .i64 a0_0, .bool false] 74 (0, 0)) (gu BK190.out) hb)
      have n2_ := am (below_step (bu HB.out) hb)
      clear BK190
      clear HB
      have HO193 := n0_
      have BK190 := n1_
      have HB := n2_
      clear n0_ n1_ n2_
      clear hb ho17
      obtain ⟨Ao18, co18, eo18⟩ := Kd.R_slice HO193.out
      subst eo18
      obtain ⟨ado18, fo18, _⟩ := Kd.at_int (Kd.R_reads' HO193.out).2.2 0 (by decide) (by rw [Ny191.out]; simp)
      cases fo18
      refine hK.out _ _ ⟨(blk_cell BK190.out 0).trans rfl, (blk_cell BK190.out 1).trans rfl⟩ (fun hHeld => ?_)
      clear hK K
      refine norm_ (a' := ?_) ?_ ?_
      rotate_left
      ·show Act.put _ (some 8) _ = _
       simp only [Act.put, sA, sZ, sS, i64_w, i32_w]
       rfl
      exact norm_ (by simp only [putAll, Act.put, sA, sZ, sS]) (hCont (.slice (some ado18) y191.length co18, ado18) _ ⟨hHeld, (ru HO193.out), ⟨_, rfl⟩, (gu BK190.out), (bu HB.out)⟩)
    rintro ⟨v192, adz_v192⟩ w19 ⟨hS_, h0_, h1_, h2_, h3_⟩
    have n0_ : Aside0 (Kd.R (Kd.int .i64) 3 w19 w.heap.size (fun _ => True) v192 y191) := ⟨h0_⟩
    have n1_ : Aside0 (∃ c_, (v192 : Value) = .slice (some adz_v192) y191.length c_) := ⟨h1_⟩
    have n2_ : Aside0 (w19.heap[gb190]? = some (.cells #[.int .i64 a0_0, .bool false] 74 (0, 0))) := ⟨h2_⟩
    have n3_ : Aside0 (Below w.heap.size w w19) := ⟨h3_⟩
    clear BK190
    clear HB
    clear h0_ h1_ h2_ h3_
    have HO193 := n0_
    have HA_HO193 := n1_
    have BK190 := n2_
    have HB := n3_
    clear n0_ n1_ n2_ n3_
    have hHeld : w19.cell? ⟨gb190, 0, none⟩ = some (.int .i64 a0_0) ∧ w19.cell? ⟨gb190, 1, none⟩ = some (.bool false) := hS_
    obtain ⟨co20, eo20⟩ := HA_HO193.out
    clear HA_HO193
    subst eo20
    refine norm_ (a' := ?_) ?_ ?_
    rotate_left
    ·simp only [putAll, Act.put, sA, sZ, sS]
     rfl
    refine pz 8 (some 12) #[T,T,T,T,T,T,T,T,T,F,F,F] (any_of HT_.out (by kernel_rfl)) (h := ?_)
    refine one_ (i := 9) (N := some 13) #[T,T,T,T,T,T,T,T,T,T,F,F] rfl rfl (one_of HT_.out (by kernel_rfl)) (by decide) (fun K hK => ?_)
    (have p195 : 0 ≤ (t194 : Int) := od; have q195 : t194 < (y191.length : Int) := od; obtain ⟨ad195, e195, hx195_0⟩ := Kd.at_int (Kd.R_reads' HO193.out).2.2 t194 p195 q195; obtain rfl : adz_v192 = ad195 := (by injection e195))
    refine value_ (w1 := ?_) (v := ?_) (by rfl) rfl ?_ ?_
    rotate_left 2
    ·go_simp
     constructor
     ·rfl
     ·rfl
    clear hx195_0
    refine hK.out _ _ ⟨(blk_cell BK190.out 0).trans rfl, (blk_cell BK190.out 1).trans rfl⟩ (fun hHeld => ?_)
    clear hK K
    refine norm_ (a' := ?_) ?_ ?_
    rotate_left
    ·show Act.put _ (some 13) _ = _
     simp only [Act.put, sA, sZ, sS, i64_w, i32_w]
     rfl
    refine pz 10 (some 14) #[T,T,T,T,T,T,T,T,T,T,T,F] (any_of HT_.out (by kernel_rfl)) (h := ?_)
    refine pz 11 (some 3) #[T,T,T,T,T,T,T,T,T,T,T,T] (any_of HT_.out (by kernel_rfl)) (h := ?_)
    refine done_ (done_of HT_.out (by kernel_rfl)) ?_
    have hcz21_0 : w19.cell? ⟨gb190, 0, none⟩ = some (.int .i64 a0_0) := (blk_cell BK190.out 0).trans rfl
    have hcz21_1 : w19.cell? ⟨gb190, 1, none⟩ = some (.bool false) := (blk_cell BK190.out 1).trans rfl
    have hfz21_0 := blk_frozen BK190.out 0
    have hfz21_1 := blk_frozen BK190.out 1
    try go_wp2
    go_ret
    exact ⟨by first | rfl | (simp [errW_none, errW_some] <;> rfl) | (simp [*, errW_none, errW_some] <;> rfl), bu HB.out⟩
  ·rw [if_neg c4] at H
   exact absurd H (by simp)
 ·rw [if_neg c3] at H
  exact absurd H (by simp)

end Go.Proofs.YtjnkmckklmabcaaGreatDoor.XM
