-- Made by this session's gprint.py out of the translation. Not trusted: Lean checks it.
import Derived.Test.YtjefoedojglhpaaDoorHAx0
import Derived.Test.YtjefoedojglhpaaDoorHAx2
import Derived.Test.YtjefoedojglhpaaDoorHAx3
import Derived.Test.YtjefoedojglhpaaDoorHAx4
namespace Go.Proofs.YtjefoedojglhpaaDoor.HA
open Go.RowKit Go.Proofs.YtjefoedojglhpaaDoorW.PrintWords Go.Proofs.YtjefoedojglhpaaDoorW.PrintLast Go.Proofs.YtjefoedojglhpaaDoorW.PrintMore
attribute [local go_sem] max2_int min2_int max_two min_two max_three min_three max_four min_four   -- for this text's walks alone
set_option linter.unusedVariables false
set_option linter.unusedSimpArgs false

/-! ### laws_FnHexAll: function 10 -/
mutual
def laws_FnHexAll.j0 : Nat → List Int → List Int → Bool → Int → Bool → Option (Bool)
 | 0, _, _, _, _, _ => none
 | k + 1, x4, x5, x26, x162000, x162001 => if x26 = true then ((laws_sameInts.f k x4 x5).bind fun t169 => (some t169)) else (laws_FnHexAll.l0 k x4 0 0 x162000 x162001)
def laws_FnHexAll.l0 : Nat → List Int → Int → Int → Int → Bool → Option (Bool)
 | 0, _, _, _, _, _ => none
 | k + 1, x4, x6, x7, x162000, x162001 => if x7 ≤ 20 then ((impl_HexSyllable.f x7 x162000 x162001).bind fun t172 => (if t172 ≥ 0 then (if x6 ≥ (x4.length : Int) then (some false) else (if 0 ≤ x6 then (if x6 < (x4.length : Int) then (if (rd x4 x6) = x7 then (laws_FnHexAll.j2 k x4 (wrap64 (x6 + 1)) x7 (decide (t172 ≥ 0)) x162000 x162001) else (some false)) else (none)) else (none))) else (laws_FnHexAll.j2 k x4 x6 x7 (decide (t172 ≥ 0)) x162000 x162001))) else (if x6 = (x4.length : Int) then ((impl_ToneNames.f x162000 x162001).bind fun t170 => ((laws_names.f k t170).bind fun t171 => (if t171 = x6 then (some (decide (x6 ≤ 3))) else (some false)))) else (some false))
def laws_FnHexAll.j2 : Nat → List Int → Int → Int → Bool → Int → Bool → Option (Bool)
 | 0, _, _, _, _, _, _ => none
 | k + 1, x4, x6, x7, x8, x162000, x162001 => if x8 = true then ((impl_ToneLetter.f x162000 x162001).bind fun t174 => (if t174.toList = ([66] : List UInt8) then ((impl_HexKind.f x7).bind fun t175 => (if ((t175.toList == ([115, 111, 102, 116] : List UInt8)) != x162001) = true then (some false) else (laws_FnHexAll.l0 k x4 x6 (wrap64 (x7 + 1)) x162000 x162001))) else (laws_FnHexAll.l0 k x4 x6 (wrap64 (x7 + 1)) x162000 x162001))) else (laws_FnHexAll.l0 k x4 x6 (wrap64 (x7 + 1)) x162000 x162001)
end
def laws_FnHexAll.f (k : Nat) (l0 : List Int) : Option (Bool) := if (l0.length : Int) > 1048576 then (some true) else ((spec_DrawHexAll.f k l0).bind fun bt159 => ((impl_HexAll.f bt159.1 bt159.2).bind fun t162 => ((spec_HexAll.f k bt159.1 bt159.2).bind fun t165 => ((laws_sameInts.f k t162 t165).bind fun t168 => (if t168 = true then (laws_FnHexAll.j0 k t162 t165 ((t162.length : Int) == 0) bt159.1 bt159.2) else (laws_FnHexAll.j0 k t162 t165 true bt159.1 bt159.2))))))
def laws_FnHexAll.T17 : Bool × List (List Nat × List Nat) := (true, [([], []), ([0], [0]), ([1], [1]), ([2, 1, 1], [1, 2]), ([3, 1], [1, 3]), ([1, 4], [1, 4]), ([5, 3], [5]), ([6], [6]), ([7, 6, 6], [6, 7]), ([8, 6], [6, 8]), ([6], [6]), ([10, 6], [6, 10]), ([9, 11, 6], [6, 9, 11]), ([6, 12], [6, 12])])
def laws_FnHexAll.B17 : List Nat := [0, 1, 3, 7, 15, 31, 63, 127, 255, 511, 127, 1151, 4095, 8191]
theorem laws_FnHexAll.tab17 : rtab .any (opsOf Tryd.f10 17) = laws_FnHexAll.T17 := by kernel_rfl
theorem laws_FnHexAll.bits17 : waitsOk laws_FnHexAll.T17.2 laws_FnHexAll.B17 = true := by kernel_rfl
set_option maxHeartbeats 8000000 in
set_option maxRecDepth 100000 in
theorem laws_FnHexAll.calls (k : Nat) (A0 : Option Addr) (c0 : Nat) (l0 : List Int) (r : Bool) (w : World) (hr0 : Kd.C (Kd.int .u8) w A0 l0.length l0) (hc0 : l0.length ≤ c0) (hTL : TabL w) (hTS : TabS w) (h : laws_FnHexAll.f k l0 = some r) :
  Calls Tryd.prog 10 #[.slice A0 l0.length c0] w fun e w' => e = .returned (.bool r) ∧ Below w.heap.size w w' := by
 have hu25 := Tryd.underlying25
 have HTL := am hTL
 clear hTL
 have HTS := am hTS
 clear hTS
 have HR0 := am hr0
 have HC0 := am hc0
 clear hr0 hc0
 have HB := am (Below.refl w.heap.size w)
 have H : (if (l0.length : Int) > 1048576 then (some true) else ((spec_DrawHexAll.f k l0).bind fun bt159 => ((impl_HexAll.f bt159.1 bt159.2).bind fun t162 => ((spec_HexAll.f k bt159.1 bt159.2).bind fun t165 => ((laws_sameInts.f k t162 t165).bind fun t168 => (if t168 = true then (laws_FnHexAll.j0 k t162 t165 ((t162.length : Int) == 0) bt159.1 bt159.2) else (laws_FnHexAll.j0 k t162 t165 true bt159.1 bt159.2))))))) = some r := h
 clear h
 by_cases c2 : (l0.length : Int) > 1048576
 ·rw [if_pos c2] at H
  have c2b0 : decide (1048576 < (l0.length : Int)) = true := decide_eq_true c2
  have c2b1 : decide (1048576 < l0.length) = true := decide_eq_true (by omega)
  clear c2
  obtain rfl := Option.some.inj H
  go_enter Tryd.func10, Tryd.ntmps10
  go_wp2
  go_ret
  exact ⟨by first | rfl | (simp [errW_none, errW_some] <;> rfl) | (simp [*, errW_none, errW_some] <;> rfl), bu HB.out⟩
 ·rw [if_neg c2] at H
  have c2b0 : decide (1048576 < (l0.length : Int)) = false := decide_eq_false c2
  have c2b1 : decide (1048576 < l0.length) = false := decide_eq_false (by omega)
  clear c2
  replace H := Option.bind_eq_some_iff.mp H
  obtain ⟨⟨t159, t160⟩, A30, H⟩ := H
  replace H : ((impl_HexAll.f t159 t160).bind fun t162 => ((spec_HexAll.f k t159 t160).bind fun t165 => ((laws_sameInts.f k t162 t165).bind fun t168 => (if t168 = true then (laws_FnHexAll.j0 k t162 t165 ((t162.length : Int) == 0) t159 t160) else (laws_FnHexAll.j0 k t162 t165 true t159 t160))))) = some r := H
  have A3 := am A30
  clear A30
  replace H := Option.bind_eq_some_iff.mp H
  obtain ⟨t162, A40, H⟩ := H
  replace H : ((spec_HexAll.f k t159 t160).bind fun t165 => ((laws_sameInts.f k t162 t165).bind fun t168 => (if t168 = true then (laws_FnHexAll.j0 k t162 t165 ((t162.length : Int) == 0) t159 t160) else (laws_FnHexAll.j0 k t162 t165 true t159 t160)))) = some r := H
  have A4 := am A40
  clear A40
  replace H := Option.bind_eq_some_iff.mp H
  obtain ⟨t165, A50, H⟩ := H
  replace H : ((laws_sameInts.f k t162 t165).bind fun t168 => (if t168 = true then (laws_FnHexAll.j0 k t162 t165 ((t162.length : Int) == 0) t159 t160) else (laws_FnHexAll.j0 k t162 t165 true t159 t160))) = some r := H
  have A5 := am A50
  clear A50
  have HC6 := am H
  clear H
  go_enter Tryd.func10, Tryd.ntmps10
  go_upto_region 6 with (first | ((with_reducible refine gate_callee (f := 30) rfl ?_); refine goesL_ (some 13) rfl rfl Tryd.func30 (by kernel_rfl) rfl #[.slice A0 l0.length c0] rfl (by (try simp only [List.map_toArray, List.map_cons, List.map_nil]); first | done | rfl | (simp only [List.length_drop, List.length_take]; rfl)) ?_; (with_reducible refine (spec_DrawHexAll.calls k _ _ l0 t159 t160 _ ?side1 ?side2 A3.out).mono ?_); (case side1 => exact cu HR0.out); (case side2 => exact HC0.out); rintro e w7 ⟨rfl, hb⟩; refine ⟨_, rfl, ?_⟩; have n0_ := am (below_step (bu HB.out) hb); clear HB; have HB := n0_; clear n0_; (try clear hb); (try clear hb2); (try clear hk); (try clear hi)) | ((with_reducible refine gate_dst (N := 3) rfl ?_); (try (refine gate_guard (by rfl) ?_; dsimp only)); refine box_event ?hg (N := 3) ?hd (cs := #[.int .i64 0, .bool false]) (t := 25) ?hr ?_; (case hd => rfl); (case hg => rfl); (case hr => first | (go_simp; done) | (go_simp; rfl)); intro gb161 hg w8 hbox hb; have n0_ := am (below_step (bu HB.out) hb); have n1_ := am (hbox); have n2_ := am ((by rw [hg]; exact (below_size (bu HB.out)) : w.heap.size ≤ gb161)); have n3_ := am ((by rw [hg]; exact (below_size (bu HB.out)) : w.heap.size ≤ gb161)); clear HB; have HB := n0_; have BK161 := n1_; have GW161 := n2_; have GE161 := n3_; clear n0_ n1_ n2_ n3_; clear hb hbox hg; have hcz9_0 : w8.cell? ⟨gb161, 0, none⟩ = some (.int .i64 0) := (blk_cell BK161.out 0).trans rfl; have hcz9_1 : w8.cell? ⟨gb161, 1, none⟩ = some (.bool false) := (blk_cell BK161.out 1).trans rfl; have hfz9_0 := blk_frozen BK161.out 0; have hfz9_1 := blk_frozen BK161.out 1) | ((with_reducible refine gate_callee (f := 31) rfl ?_); refine goesL_ (some 15) rfl rfl Tryd.func31 (by kernel_rfl) rfl #[.agg #[.int .i64 t159, .bool t160]] rfl (by (try simp only [List.map_toArray, List.map_cons, List.map_nil]); first | done | rfl | (simp only [List.length_drop, List.length_take]; rfl)) ?_; (with_reducible refine (impl_HexAll.calls t159 t160 t162 _ ?side1 A4.out).mono ?_); (case side1 => first | exact HTL.out | exact TabAt.below HTL.out (bu HB.out)); rintro e w10 ⟨v163, rfl, ho0, hb⟩; refine ⟨_, rfl, ?_⟩; have n0_ := am (Kd.R_lower ho0 (below_size (bu HB.out))); have n1_ := am (blk_below (g := gb161) (o := .cells #[.int .i64 t159, .bool t160] 25 (0, 0)) (by (with_reducible repeat (first | refine blk_drewN ?_ _ | refine blk_drew ?_ | refine blk_alloc ?_ _)); refine blk_put (cs := #[.int .i64 t159, .bool false]) ?_ 1 _ rfl; (with_reducible repeat (first | refine blk_drewN ?_ _ | refine blk_drew ?_ | refine blk_alloc ?_ _)); refine blk_put (cs := #[.int .i64 0, .bool false]) ?_ 0 _ rfl; (with_reducible repeat (first | refine blk_drewN ?_ _ | refine blk_drew ?_ | refine blk_alloc ?_ _)); exact BK161.out) hb); have n2_ := am (below_step (bu HB.out) hb); clear BK161; clear HB; have HO164 := n0_; have BK161 := n1_; have HB := n2_; clear n0_ n1_ n2_; (try clear hb); (try clear hb2); (try clear hk); (try clear hi); (try clear ho0); have hcz11_0 : w10.cell? ⟨gb161, 0, none⟩ = some (.int .i64 t159) := (blk_cell BK161.out 0).trans rfl; have hcz11_1 : w10.cell? ⟨gb161, 1, none⟩ = some (.bool t160) := (blk_cell BK161.out 1).trans rfl; have hfz11_0 := blk_frozen BK161.out 0; have hfz11_1 := blk_frozen BK161.out 1) | ((with_reducible refine gate_callee (f := 32) rfl ?_); refine goesL_ (some 17) rfl rfl Tryd.func32 (by kernel_rfl) rfl #[.agg #[.int .i64 t159, .bool t160]] rfl (by (try simp only [List.map_toArray, List.map_cons, List.map_nil]); first | done | rfl | (simp only [List.length_drop, List.length_take]; rfl)) ?_; (with_reducible refine (spec_HexAll.calls k t159 t160 t165 _ A5.out).mono ?_); rintro e w12 ⟨v166, rfl, ho0, hb⟩; refine ⟨_, rfl, ?_⟩; have n0_ := am (Kd.R_elder' (ru HO164.out) (Kd.R_base ho0) hb); have n1_ := am (Kd.R_lower (Kd.R_new' ho0 (Kd.R_lt (ru HO164.out))) (below_size (bu HB.out))); have n2_ := am (blk_below (g := gb161) (o := .cells #[.int .i64 t159, .bool t160] 25 (0, 0)) (gu BK161.out) hb); have n3_ := am (below_step (bu HB.out) hb); clear HO164; clear BK161; clear HB; have HO164 := n0_; have HO167 := n1_; have BK161 := n2_; have HB := n3_; clear n0_ n1_ n2_ n3_; (try clear hb); (try clear hb2); (try clear hk); (try clear hi); (try clear ho0)))
  (try simp only [Act.put, sA, sZ, sS])
  go_cut [26] (fun v26 wc => ∃ (kq : Nat) (x26_5 : Bool), v26 = .bool x26_5 ∧ Aside0 (laws_FnHexAll.j0 kq t162 t165 x26_5 t159 t160 = some r) ∧ Aside0 (kq ≤ k) ∧ Aside0 (Kd.R (Kd.int .i64) 3 wc w.heap.size (fun k_ => some k_ ≠ (v166 : Value).ownBlock) v163 t162) ∧ Aside0 (Kd.R (Kd.int .i64) 3 wc w.heap.size (fun k_ => some k_ ≠ (v163 : Value).ownBlock) v166 t165) ∧ Aside0 (wc.heap[gb161]? = some (.cells #[.int .i64 t159, .bool t160] 25 (0, 0))) ∧ Aside0 (Below w.heap.size w wc))
  case first =>
   have H := HC6.out
   clear HC6
   replace H := Option.bind_eq_some_iff.mp H
   obtain ⟨t168, A130, H⟩ := H
   replace H : (if t168 = true then (laws_FnHexAll.j0 k t162 t165 ((t162.length : Int) == 0) t159 t160) else (laws_FnHexAll.j0 k t162 t165 true t159 t160)) = some r := H
   have A13 := am A130
   clear A130
   by_cases c14 : t168 = true
   ·subst c14
    have H1 : (laws_FnHexAll.j0 k t162 t165 ((t162.length : Int) == 0) t159 t160) = some r := by rw [if_pos rfl] at H; exact H
    clear H
    have H := H1
    clear H1
    have H' := am H
    clear H
    obtain ⟨Ao15, co15, eo15⟩ := Kd.R_slice HO164.out
    subst eo15
    obtain ⟨Ao16, co16, eo16⟩ := Kd.R_slice HO167.out
    subst eo16
    go_wp2_with (first | ((with_reducible refine gate_callee (f := 33) rfl ?_); refine goesL_ (some 20) rfl rfl Tryd.func33 (by kernel_rfl) rfl #[.slice Ao15 t162.length co15, .slice Ao16 t165.length co16] rfl (by (try simp only [List.map_toArray, List.map_cons, List.map_nil]); first | done | rfl | (simp only [List.length_drop, List.length_take]; rfl)) ?_; (with_reducible refine (laws_sameInts.calls k _ _ t162 _ _ t165 true _ ?side1 ?side2 ?side3 ?side4 A13.out).mono ?_); (case side1 => exact cu (Kd.R_reads' HO164.out).2.2); (case side2 => exact (Kd.R_reads' HO164.out).2.1); (case side3 => exact cu (Kd.R_reads' HO167.out).2.2); (case side4 => exact (Kd.R_reads' HO167.out).2.1); rintro e w' ⟨rfl, ⟨nd, rfl⟩⟩; refine ⟨_, rfl, ?_⟩))
    go_meet
    case rel => exact ⟨_, (((t162.length : Int) == 0)), (by first | rfl | (simp; done) | (simp [*]; done)), H', ⟨by first | omega | exact Nat.le_refl _⟩, ⟨by (with_reducible repeat (first | apply Kd.R_alloc | apply Kd.R_drewN | apply Kd.R_drew)); exact Kd.R_mono HO164.out (fun _ hk => hk.2)⟩, ⟨by (with_reducible repeat (first | apply Kd.R_alloc | apply Kd.R_drewN | apply Kd.R_drew)); exact Kd.R_mono HO167.out (fun _ hk => hk.2)⟩, ⟨gu BK161.out⟩, ⟨bu HB.out⟩⟩
   ·replace c14 := Bool.eq_false_iff.mpr c14
    subst c14
    have H1 : (laws_FnHexAll.j0 k t162 t165 true t159 t160) = some r := by rw [if_neg (show ¬ (false = true) by decide)] at H; exact H
    clear H
    have H := H1
    clear H1
    have H' := am H
    clear H
    obtain ⟨Ao17, co17, eo17⟩ := Kd.R_slice HO164.out
    subst eo17
    obtain ⟨Ao18, co18, eo18⟩ := Kd.R_slice HO167.out
    subst eo18
    go_wp2_with (first | ((with_reducible refine gate_callee (f := 33) rfl ?_); refine goesL_ (some 20) rfl rfl Tryd.func33 (by kernel_rfl) rfl #[.slice Ao17 t162.length co17, .slice Ao18 t165.length co18] rfl (by (try simp only [List.map_toArray, List.map_cons, List.map_nil]); first | done | rfl | (simp only [List.length_drop, List.length_take]; rfl)) ?_; (with_reducible refine (laws_sameInts.calls k _ _ t162 _ _ t165 false _ ?side1 ?side2 ?side3 ?side4 A13.out).mono ?_); (case side1 => exact cu (Kd.R_reads' HO164.out).2.2); (case side2 => exact (Kd.R_reads' HO164.out).2.1); (case side3 => exact cu (Kd.R_reads' HO167.out).2.2); (case side4 => exact (Kd.R_reads' HO167.out).2.1); rintro e w' ⟨rfl, ⟨nd, rfl⟩⟩; refine ⟨_, rfl, ?_⟩))
    go_meet
    case rel => exact ⟨_, (true), (by first | rfl | (simp; done) | (simp [*]; done)), H', ⟨by first | omega | exact Nat.le_refl _⟩, ⟨by (with_reducible repeat (first | apply Kd.R_alloc | apply Kd.R_drewN | apply Kd.R_drew)); exact Kd.R_mono HO164.out (fun _ hk => hk.2)⟩, ⟨by (with_reducible repeat (first | apply Kd.R_alloc | apply Kd.R_drewN | apply Kd.R_drew)); exact Kd.R_mono HO167.out (fun _ hk => hk.2)⟩, ⟨gu BK161.out⟩, ⟨bu HB.out⟩⟩
  case rest =>
   clear HC6
   try clear c1
   try clear c2
   try clear c2b0
   try clear c2b1
   try clear p2
   try clear c3
   try clear c10
   try clear c14
   try clear hcz11_0
   try clear hcz11_1
   try clear hcz9_0
   try clear hcz9_1
   try clear hfz11_0
   try clear hfz11_1
   try clear hfz9_0
   try clear hfz9_1
   obtain ⟨kq, x26_5, rfl, HA, HJ5, HO_4, HO_5, BK161, HB⟩ := hcut
   cases kq with
   | zero => exact absurd HA.out (by simp [laws_FnHexAll.j0])
   | succ kj5 =>
    have H := HA.out
    clear HA
    simp only [laws_FnHexAll.j0] at H
    by_cases c19 : x26_5 = true
    ·subst c19
     have H1 : ((laws_sameInts.f kj5 t162 t165).bind fun t169 => (some t169)) = some r := by rw [if_pos rfl] at H; exact H
     clear H
     have H := H1
     clear H1
     replace H := Option.bind_eq_some_iff.mp H
     obtain ⟨t169, A200, H⟩ := H
     replace H : (some t169) = some r := H
     have A20 := am A200
     clear A200
     obtain rfl := Option.some.inj H
     obtain ⟨Ao21, co21, eo21⟩ := Kd.R_slice HO_4.out
     subst eo21
     obtain ⟨Ao22, co22, eo22⟩ := Kd.R_slice HO_5.out
     subst eo22
     go_wp2_with (first | ((with_reducible refine gate_callee (f := 33) rfl ?_); refine goesL_ (some 29) rfl rfl Tryd.func33 (by kernel_rfl) rfl #[.slice Ao21 t162.length co21, .slice Ao22 t165.length co22] rfl (by (try simp only [List.map_toArray, List.map_cons, List.map_nil]); first | done | rfl | (simp only [List.length_drop, List.length_take]; rfl)) ?_; (with_reducible refine (laws_sameInts.calls kj5 _ _ t162 _ _ t165 t169 _ ?side1 ?side2 ?side3 ?side4 A20.out).mono ?_); (case side1 => exact cu (Kd.R_reads' HO_4.out).2.2); (case side2 => exact (Kd.R_reads' HO_4.out).2.1); (case side3 => exact cu (Kd.R_reads' HO_5.out).2.2); (case side4 => exact (Kd.R_reads' HO_5.out).2.1); rintro e w' ⟨rfl, ⟨nd, rfl⟩⟩; refine ⟨_, rfl, ?_⟩))
     go_ret
     exact ⟨by first | rfl | (simp [errW_none, errW_some] <;> rfl) | (simp [*, errW_none, errW_some] <;> rfl), bu HB.out⟩
    ·replace c19 := Bool.eq_false_iff.mpr c19
     subst c19
     have H1 : (laws_FnHexAll.l0 kj5 t162 0 0 t159 t160) = some r := by rw [if_neg (show ¬ (false = true) by decide)] at H; exact H
     clear H
     have H := H1
     clear H1
     have H' := am H
     clear H
     go_wp2
     go_loopg [6, 7] kj5 (fun kq v6 v7 w' => ∃ (x6_2 : Int) (x7_2 : Int), v6 = .int .i64 x6_2 ∧ v7 = .int .i64 x7_2 ∧ Aside0 (laws_FnHexAll.l0 kq t162 x6_2 x7_2 t159 t160 = some r) ∧ Aside0 (kq ≤ kj5) ∧ Aside0 (Kd.R (Kd.int .i64) 3 w' w.heap.size (fun _ => True) v163 t162) ∧ Aside0 (w'.heap[gb161]? = some (.cells #[.int .i64 t159, .bool t160] 25 (0, 0))) ∧ Aside0 (Below w.heap.size w w'))
     case atStart => exact ⟨(0), (0), (by first | rfl | (simp; done) | (simp [*]; done)), (by first | rfl | (simp; done) | (simp [*]; done)), H', ⟨Nat.le_refl _⟩, ⟨by (with_reducible repeat (first | apply Kd.R_alloc | apply Kd.R_drewN | apply Kd.R_drew)); exact Kd.R_mono HO_4.out (fun _ hk => trivial)⟩, ⟨gu BK161.out⟩, ⟨bu HB.out⟩⟩
     case round =>
      clear H'
      try clear c1
      try clear c2
      try clear c2b0
      try clear c2b1
      try clear p2
      try clear c3
      try clear c10
      try clear c14
      try clear c19
      try clear hcz11_0
      try clear hcz11_1
      try clear hcz9_0
      try clear hcz9_1
      try clear hfz11_0
      try clear hfz11_1
      try clear hfz9_0
      try clear hfz9_1
      try clear p2
      obtain ⟨x6_2, x7_2, rfl, rfl, HA, HK2, HO_4, BK161, HB⟩ := hrel
      cases gk with
      | zero => exact absurd HA.out (by simp [laws_FnHexAll.l0])
      | succ k2 =>
       have H := HA.out
       clear HA
       simp only [laws_FnHexAll.l0] at H
       by_cases c23 : x7_2 ≤ 20
       ·rw [if_pos c23] at H
        have c23b0 : decide (x7_2 ≤ 20) = true := decide_eq_true c23
        clear c23
        replace H := Option.bind_eq_some_iff.mp H
        obtain ⟨t172, A240, H⟩ := H
        replace H : (if t172 ≥ 0 then (if x6_2 ≥ (t162.length : Int) then (some false) else (if 0 ≤ x6_2 then (if x6_2 < (t162.length : Int) then (if (rd t162 x6_2) = x7_2 then (laws_FnHexAll.j2 k2 t162 (wrap64 (x6_2 + 1)) x7_2 (decide (t172 ≥ 0)) t159 t160) else (some false)) else (none)) else (none))) else (laws_FnHexAll.j2 k2 t162 x6_2 x7_2 (decide (t172 ≥ 0)) t159 t160)) = some r := H
        have A24 := am A240
        clear A240
        have HC25 := am H
        clear H
        have hcz26_0 : wr.cell? ⟨gb161, 0, none⟩ = some (.int .i64 t159) := (blk_cell BK161.out 0).trans rfl
        have hcz26_1 : wr.cell? ⟨gb161, 1, none⟩ = some (.bool t160) := (blk_cell BK161.out 1).trans rfl
        have hfz26_0 := blk_frozen BK161.out 0
        have hfz26_1 := blk_frozen BK161.out 1
        go_upto_if 38 with (first | ((with_reducible refine gate_callee (f := 24) rfl ?_); refine goesL_ (some 36) rfl rfl Tryd.func24 (by kernel_rfl) rfl #[.int .i64 x7_2, .agg #[.int .i64 t159, .bool t160]] rfl (by (try simp only [List.map_toArray, List.map_cons, List.map_nil]); first | done | rfl | (simp only [List.length_drop, List.length_take]; rfl)) ?_; (with_reducible refine (impl_HexSyllable.calls x7_2 t159 t160 t172 _ ?side1 A24.out).mono ?_); (case side1 => first | exact HTL.out | exact TabAt.below HTL.out (bu HB.out)); rintro e w27 ⟨rfl, hb⟩; refine ⟨_, rfl, ?_⟩; have n0_ := am (Kd.R_below (ru HO_4.out) hb); have n1_ := am (blk_below (g := gb161) (o := .cells #[.int .i64 t159, .bool t160] 25 (0, 0)) (gu BK161.out) hb); have n2_ := am (below_step (bu HB.out) hb); clear HO_4; clear BK161; clear HB; have HO_4 := n0_; have BK161 := n1_; have HB := n2_; clear n0_ n1_ n2_; (try clear hb); (try clear hb2); (try clear hk); (try clear hi)))
        (try simp only [Act.put, sA, sZ, sS])
        go_cut [6, 8] (fun v6 v8 wc => ∃ (kq : Nat) (x6_24 : Int), v6 = .int .i64 x6_24 ∧ v8 = .bool (decide (t172 ≥ 0)) ∧ Aside0 (laws_FnHexAll.j2 kq t162 x6_24 x7_2 (decide (t172 ≥ 0)) t159 t160 = some r) ∧ Aside0 (kq ≤ k2) ∧ Aside0 (Kd.R (Kd.int .i64) 3 wc w.heap.size (fun _ => True) v163 t162) ∧ Aside0 (wc.heap[gb161]? = some (.cells #[.int .i64 t159, .bool t160] 25 (0, 0))) ∧ Aside0 (Below w.heap.size w wc))
        case first =>
         have H := HC25.out
         clear HC25
         by_cases c28 : t172 ≥ 0
         ·rw [if_pos c28] at H
          have c28b0 : decide (0 ≤ t172) = true := decide_eq_true c28
          clear c28
          (first | rw [c28b0] | (simp only [i64_w, i32_w]; rw [c28b0]) | skip)
          by_cases c29 : x6_2 ≥ (t162.length : Int)
          ·rw [if_pos c29] at H
           have c29b0 : decide ((t162.length : Int) ≤ x6_2) = true := decide_eq_true c29
           clear c29
           obtain rfl := Option.some.inj H
           obtain ⟨Ao30, co30, eo30⟩ := Kd.R_slice HO_4.out
           subst eo30
           go_wp2
           go_ret
           exact ⟨by first | rfl | (simp [errW_none, errW_some] <;> rfl) | (simp [*, errW_none, errW_some] <;> rfl), bu HB.out⟩
          ·rw [if_neg c29] at H
           have c29b0 : decide ((t162.length : Int) ≤ x6_2) = false := decide_eq_false c29
           clear c29
           by_cases c31 : 0 ≤ x6_2
           ·rw [if_pos c31] at H
            have c31b0 : decide (0 ≤ x6_2) = true := decide_eq_true c31
            clear c31
            by_cases c32 : x6_2 < (t162.length : Int)
            ·rw [if_pos c32] at H
             have c32b0 : decide (x6_2 < (t162.length : Int)) = true := decide_eq_true c32
             clear c32
             by_cases c33 : (rd t162 x6_2) = x7_2
             ·rw [if_pos c33] at H
              have c33b0 : ((rd t162 x6_2) == x7_2) = true := beq_iff_eq.mpr c33
              have c33b1 : ((rd t162 x6_2) != x7_2) = false := bne_eq_false_iff_eq.mpr c33
              clear c33
              have H' := am H
              clear H
              obtain ⟨Ao34, co34, eo34⟩ := Kd.R_slice HO_4.out
              subst eo34
              have p173 : 0 ≤ (x6_2 : Int) := od
              have q173 : x6_2 < (t162.length : Int) := od
              obtain ⟨ad173, e173, hx173_0⟩ := Kd.at_int (Kd.R_reads' HO_4.out).2.2 x6_2 p173 q173
              cases e173
              replace p173 := eq_true p173
              replace q173 := eq_true q173
              go_wp2
              go_meet
              case rel => exact ⟨_, (wrap64 (x6_2 + 1)), (by first | rfl | (simp; done) | (simp [*]; done)), (by first | rfl | (simp; done) | (simp [*]; done)), H', ⟨by have := HJ5.out; have := HK2.out; first | omega | exact Nat.le_refl _⟩, ⟨ru HO_4.out⟩, ⟨gu BK161.out⟩, ⟨bu HB.out⟩⟩
             ·rw [if_neg c33] at H
              have c33b0 : ((rd t162 x6_2) == x7_2) = false := beq_eq_false_iff_ne.mpr c33
              have c33b1 : ((rd t162 x6_2) != x7_2) = true := bne_iff_ne.mpr c33
              obtain rfl := Option.some.inj H
              obtain ⟨Ao35, co35, eo35⟩ := Kd.R_slice HO_4.out
              subst eo35
              have p173 : 0 ≤ (x6_2 : Int) := od
              have q173 : x6_2 < (t162.length : Int) := od
              obtain ⟨ad173, e173, hx173_0⟩ := Kd.at_int (Kd.R_reads' HO_4.out).2.2 x6_2 p173 q173
              cases e173
              replace p173 := eq_true p173
              replace q173 := eq_true q173
              go_wp2
              go_ret
              exact ⟨by first | rfl | (simp [errW_none, errW_some] <;> rfl) | (simp [*, errW_none, errW_some] <;> rfl), bu HB.out⟩
            ·rw [if_neg c32] at H
             exact absurd H (by simp)
           ·rw [if_neg c31] at H
            exact absurd H (by simp)
         ·rw [if_neg c28] at H
          have c28b0 : decide (0 ≤ t172) = false := decide_eq_false c28
          clear c28
          (first | rw [c28b0] | (simp only [i64_w, i32_w]; rw [c28b0]) | skip)
          have H' := am H
          clear H
          go_wp2
          go_meet
          case rel => exact ⟨_, (x6_2), (by first | rfl | (simp; done) | (simp [*]; done)), (by first | rfl | (simp; done) | (simp [*]; done)), H', ⟨by have := HJ5.out; have := HK2.out; first | omega | exact Nat.le_refl _⟩, ⟨ru HO_4.out⟩, ⟨gu BK161.out⟩, ⟨bu HB.out⟩⟩
        case rest =>
         clear HC25
         try clear c1
         try clear p1
         try clear q1
         try clear hx1
         try clear c2
         try clear c2b0
         try clear c2b1
         try clear p2
         try clear c3
         try clear p6
         try clear c10
         try clear c14
         try clear p17
         try clear q17
         try clear hx17
         try clear c19
         try clear c23
         try clear c23b0
         try clear c24
         try clear c28
         try clear c28b0
         try clear c29
         try clear c29b0
         try clear c30
         try clear c31
         try clear c31b0
         try clear c32
         try clear c32b0
         try clear c33
         try clear c33b0
         try clear c33b1
         try clear hcz11_0
         try clear hcz11_1
         try clear hcz26_0
         try clear hcz26_1
         try clear hcz9_0
         try clear hcz9_1
         try clear hfz11_0
         try clear hfz11_1
         try clear hfz26_0
         try clear hfz26_1
         try clear hfz9_0
         try clear hfz9_1
         try clear hx173_0
         try clear p173
         try clear p2
         try clear q173
         obtain ⟨kq, x6_24, rfl, rfl, HA, HJ24, HO_4, BK161, HB⟩ := hcut
         cases kq with
         | zero => exact absurd HA.out (by simp [laws_FnHexAll.j2])
         | succ kj24 =>
          have H := HA.out
          clear HA
          simp only [laws_FnHexAll.j2] at H
          by_cases c36 : (decide (t172 ≥ 0)) = true
          ·rw [if_pos c36] at H
           have c36b0 : (decide (t172 ≥ 0)) = true := c36
           clear c36
           replace H := Option.bind_eq_some_iff.mp H
           obtain ⟨t174, A370, H⟩ := H
           replace H : (if t174.toList = ([66] : List UInt8) then ((impl_HexKind.f x7_2).bind fun t175 => (if ((t175.toList == ([115, 111, 102, 116] : List UInt8)) != t160) = true then (some false) else (laws_FnHexAll.l0 kj24 t162 x6_24 (wrap64 (x7_2 + 1)) t159 t160))) else (laws_FnHexAll.l0 kj24 t162 x6_24 (wrap64 (x7_2 + 1)) t159 t160)) = some r := H
           have A37 := am A370
           clear A370
           by_cases c38 : t174.toList = ([66] : List UInt8)
           ·rw [if_pos c38] at H
            have c38b0 : (t174.toList == ([66] : List UInt8)) = true := beq_iff_eq.mpr c38
            have c38b1 : (t174.toList != ([66] : List UInt8)) = false := bne_eq_false_iff_eq.mpr c38
            clear c38
            replace H := Option.bind_eq_some_iff.mp H
            obtain ⟨t175, A390, H⟩ := H
            replace H : (if ((t175.toList == ([115, 111, 102, 116] : List UInt8)) != t160) = true then (some false) else (laws_FnHexAll.l0 kj24 t162 x6_24 (wrap64 (x7_2 + 1)) t159 t160)) = some r := H
            have A39 := am A390
            clear A390
            by_cases c40 : ((t175.toList == ([115, 111, 102, 116] : List UInt8)) != t160) = true
            ·rw [if_pos c40] at H
             have c40b0 : ((t175.toList == ([115, 111, 102, 116] : List UInt8)) != t160) = true := c40
             (try (have c40b1 : decide ((t175.toList == ([115, 111, 102, 116] : List UInt8)) = t160) = false := by simpa using c40))
             (try (have c40b2 : ((t175.toList == ([115, 111, 102, 116] : List UInt8)) == t160) = false := by simpa using c40))
             (try (have c40b3 : ¬ ((t175.toList == ([115, 111, 102, 116] : List UInt8)) = t160) := by simpa using c40))
             clear c40
             obtain rfl := Option.some.inj H
             try go_wp2
             have n0_ := am (Kd.R_drew HO_4.out)
             have n1_ := am (blk_drew BK161.out)
             have n2_ := am (below_drew1 HB.out)
             clear HO_4
             clear BK161
             clear HB
             have HO_4 := n0_
             have BK161 := n1_
             have HB := n2_
             clear n0_ n1_ n2_
             refine start_ (n := 14) (S := fun w' => w'.cell? ⟨gb161, 0, none⟩ = some (.int .i64 t159) ∧ w'.cell? ⟨gb161, 1, none⟩ = some (.bool t160)) (ds := []) #[F,F,F,F,F,F,F,F,F,F,F,F,F,F] (by kernel_rfl) rfl rfl ⟨(blk_cell BK161.out 0).trans rfl, (blk_cell BK161.out 1).trans rfl⟩ (fun hHeld => ?_); refine with_tabW laws_FnHexAll.tab17 laws_FnHexAll.bits17 (fun HT_ HW_ => ?_)
             generalize wc.drew = w41 at HO_4 BK161 HB hHeld ⊢
             refine pz 0 (some 53) #[T,F,F,F,F,F,F,F,F,F,F,F,F,F] (any_of HT_.out (by kernel_rfl)) (h := ?_)
             refine pz 1 (some 54) #[T,T,F,F,F,F,F,F,F,F,F,F,F,F] (any_of HT_.out (by kernel_rfl)) (h := ?_)
             refine tz hHeld 2 (some 55) #[T,T,T,F,F,F,F,F,F,F,F,F,F,F] (take_ofW HT_.out HW_.out (by kernel_rfl)) (h := ?_)
             refine one_ (i := 3) (N := some 56) #[T,T,T,T,F,F,F,F,F,F,F,F,F,F] rfl rfl (one_of HT_.out (by kernel_rfl)) (by decide) (fun K hK => ?_)
             refine goes_ Tryd.func34 (by kernel_rfl) rfl #[.agg #[.int .i64 t159, .bool t160]] (by rfl) rfl rfl (by (try simp only [List.map_toArray, List.map_cons, List.map_nil]); first | done | rfl | (simp only [List.length_drop, List.length_take]; rfl)) ?_
             with_reducible refine (impl_ToneLetter.calls t159 t160 t174 _ ?side1 A37.out).mono ?_
             (case side1 => first | exact HTL.out | exact TabAt.below HTL.out (bu HB.out))
             rintro e w42 ⟨rfl, hb⟩
             refine ⟨_, rfl, ?_⟩
             have n0_ := am (Kd.R_below (ru HO_4.out) hb)
             have n1_ := am (blk_below (g := gb161) (o := .cells #[.int .i64 t159, .bool t160] 25 (0, 0)) (gu BK161.out) hb)
             have n2_ := am (below_step (bu HB.out) hb)
             clear HO_4
             clear BK161
             clear HB
             have HO_4 := n0_
             have BK161 := n1_
             have HB := n2_
             clear n0_ n1_ n2_
             (try clear hb)
             (try clear hb2)
             (try clear hk)
             (try clear hi)
             refine hK.out _ _ ⟨(blk_cell BK161.out 0).trans rfl, (blk_cell BK161.out 1).trans rfl⟩ (fun hHeld => ?_)
             clear hK K
             refine norm_ (a' := ?_) ?_ ?_
             rotate_left
             ·show Act.put _ (some 56) _ = _
              simp only [Act.put, sA, sZ, sS, i64_w, i32_w]
              rfl
             refine pz 4 (some 57) #[T,T,T,T,T,F,F,F,F,F,F,F,F,F] (any_of HT_.out (by kernel_rfl)) (h := ?_)
             refine pz 5 (some 58) #[T,T,T,T,T,T,F,F,F,F,F,F,F,F] (any_of HT_.out (by kernel_rfl)) (h := ?_)
             refine pz 6 (some 59) #[T,T,T,T,T,T,T,F,F,F,F,F,F,F] (any_of HT_.out (by kernel_rfl)) (h := ?_)
             refine pz 7 (some 60) #[T,T,T,T,T,T,T,T,F,F,F,F,F,F] (any_of HT_.out (by kernel_rfl)) (h := ?_)
             refine pz 10 (some 63) #[T,T,T,T,T,T,T,T,F,F,T,F,F,F] (any_of HT_.out (by kernel_rfl)) (h := ?_)
             refine tz hHeld 11 (some 64) #[T,T,T,T,T,T,T,T,F,F,T,T,F,F] (take_ofW HT_.out HW_.out (by kernel_rfl)) (h := ?_)
             refine one_ (i := 8) (N := some 61) #[T,T,T,T,T,T,T,T,T,F,T,T,F,F] rfl rfl (one_of HT_.out (by kernel_rfl)) (by decide) (fun K hK => ?_)
             refine goes_ Tryd.func18 (by kernel_rfl) rfl #[.int .i64 x7_2] (by rfl) rfl rfl (by (try simp only [List.map_toArray, List.map_cons, List.map_nil]); first | done | rfl | (simp only [List.length_drop, List.length_take]; rfl)) ?_
             with_reducible refine (impl_HexKind.calls x7_2 t175 _ ?side1 A39.out).mono ?_
             (case side1 => first | exact HTL.out | exact TabAt.below HTL.out (bu HB.out))
             rintro e w43 ⟨rfl, hb⟩
             refine ⟨_, rfl, ?_⟩
             have n0_ := am (Kd.R_below (ru HO_4.out) hb)
             have n1_ := am (blk_below (g := gb161) (o := .cells #[.int .i64 t159, .bool t160] 25 (0, 0)) (gu BK161.out) hb)
             have n2_ := am (below_step (bu HB.out) hb)
             clear HO_4
             clear BK161
             clear HB
             have HO_4 := n0_
             have BK161 := n1_
             have HB := n2_
             clear n0_ n1_ n2_
             (try clear hb)
             (try clear hb2)
             (try clear hk)
             (try clear hi)
             refine hK.out _ _ ⟨(blk_cell BK161.out 0).trans rfl, (blk_cell BK161.out 1).trans rfl⟩ (fun hHeld => ?_)
             clear hK K
             refine norm_ (a' := ?_) ?_ ?_
             rotate_left
             ·show Act.put _ (some 61) _ = _
              simp only [Act.put, sA, sZ, sS, i64_w, i32_w]
              rfl
             refine pz 9 (some 62) #[T,T,T,T,T,T,T,T,T,T,T,T,F,F] (any_of HT_.out (by kernel_rfl)) (h := ?_)
             refine pz 12 (some 65) #[T,T,T,T,T,T,T,T,T,T,T,T,T,F] (any_of HT_.out (by kernel_rfl)) (h := ?_)
             refine pz 13 (some 66) #[T,T,T,T,T,T,T,T,T,T,T,T,T,T] (any_of HT_.out (by kernel_rfl)) (h := ?_)
             refine done_ (done_of HT_.out (by kernel_rfl)) ?_
             try go_wp2
             go_ret
             exact ⟨by first | rfl | (simp [errW_none, errW_some] <;> rfl) | (simp [*, errW_none, errW_some] <;> rfl), bu HB.out⟩
            ·rw [if_neg c40] at H
             have c40b0 : ((t175.toList == ([115, 111, 102, 116] : List UInt8)) != t160) = false := by simpa using c40
             (try (have c40b1 : decide ((t175.toList == ([115, 111, 102, 116] : List UInt8)) = t160) = true := by simpa using c40))
             (try (have c40b2 : ((t175.toList == ([115, 111, 102, 116] : List UInt8)) == t160) = true := by simpa using c40))
             clear c40
             have H' := am H
             clear H
             try go_wp2
             have n0_ := am (Kd.R_drew HO_4.out)
             have n1_ := am (blk_drew BK161.out)
             have n2_ := am (below_drew1 HB.out)
             clear HO_4
             clear BK161
             clear HB
             have HO_4 := n0_
             have BK161 := n1_
             have HB := n2_
             clear n0_ n1_ n2_
             refine start_ (n := 14) (S := fun w' => w'.cell? ⟨gb161, 0, none⟩ = some (.int .i64 t159) ∧ w'.cell? ⟨gb161, 1, none⟩ = some (.bool t160)) (ds := []) #[F,F,F,F,F,F,F,F,F,F,F,F,F,F] (by kernel_rfl) rfl rfl ⟨(blk_cell BK161.out 0).trans rfl, (blk_cell BK161.out 1).trans rfl⟩ (fun hHeld => ?_); refine with_tabW laws_FnHexAll.tab17 laws_FnHexAll.bits17 (fun HT_ HW_ => ?_)
             generalize wc.drew = w44 at HO_4 BK161 HB hHeld ⊢
             refine pz 0 (some 53) #[T,F,F,F,F,F,F,F,F,F,F,F,F,F] (any_of HT_.out (by kernel_rfl)) (h := ?_)
             refine pz 1 (some 54) #[T,T,F,F,F,F,F,F,F,F,F,F,F,F] (any_of HT_.out (by kernel_rfl)) (h := ?_)
             refine tz hHeld 2 (some 55) #[T,T,T,F,F,F,F,F,F,F,F,F,F,F] (take_ofW HT_.out HW_.out (by kernel_rfl)) (h := ?_)
             refine one_ (i := 3) (N := some 56) #[T,T,T,T,F,F,F,F,F,F,F,F,F,F] rfl rfl (one_of HT_.out (by kernel_rfl)) (by decide) (fun K hK => ?_)
             refine goes_ Tryd.func34 (by kernel_rfl) rfl #[.agg #[.int .i64 t159, .bool t160]] (by rfl) rfl rfl (by (try simp only [List.map_toArray, List.map_cons, List.map_nil]); first | done | rfl | (simp only [List.length_drop, List.length_take]; rfl)) ?_
             with_reducible refine (impl_ToneLetter.calls t159 t160 t174 _ ?side1 A37.out).mono ?_
             (case side1 => first | exact HTL.out | exact TabAt.below HTL.out (bu HB.out))
             rintro e w45 ⟨rfl, hb⟩
             refine ⟨_, rfl, ?_⟩
             have n0_ := am (Kd.R_below (ru HO_4.out) hb)
             have n1_ := am (blk_below (g := gb161) (o := .cells #[.int .i64 t159, .bool t160] 25 (0, 0)) (gu BK161.out) hb)
             have n2_ := am (below_step (bu HB.out) hb)
             clear HO_4
             clear BK161
             clear HB
             have HO_4 := n0_
             have BK161 := n1_
             have HB := n2_
             clear n0_ n1_ n2_
             (try clear hb)
             (try clear hb2)
             (try clear hk)
             (try clear hi)
             refine hK.out _ _ ⟨(blk_cell BK161.out 0).trans rfl, (blk_cell BK161.out 1).trans rfl⟩ (fun hHeld => ?_)
             clear hK K
             refine norm_ (a' := ?_) ?_ ?_
             rotate_left
             ·show Act.put _ (some 56) _ = _
              simp only [Act.put, sA, sZ, sS, i64_w, i32_w]
              rfl
             refine pz 4 (some 57) #[T,T,T,T,T,F,F,F,F,F,F,F,F,F] (any_of HT_.out (by kernel_rfl)) (h := ?_)
             refine pz 5 (some 58) #[T,T,T,T,T,T,F,F,F,F,F,F,F,F] (any_of HT_.out (by kernel_rfl)) (h := ?_)
             refine pz 6 (some 59) #[T,T,T,T,T,T,T,F,F,F,F,F,F,F] (any_of HT_.out (by kernel_rfl)) (h := ?_)
             refine pz 7 (some 60) #[T,T,T,T,T,T,T,T,F,F,F,F,F,F] (any_of HT_.out (by kernel_rfl)) (h := ?_)
             refine pz 10 (some 63) #[T,T,T,T,T,T,T,T,F,F,T,F,F,F] (any_of HT_.out (by kernel_rfl)) (h := ?_)
             refine tz hHeld 11 (some 64) #[T,T,T,T,T,T,T,T,F,F,T,T,F,F] (take_ofW HT_.out HW_.out (by kernel_rfl)) (h := ?_)
             refine one_ (i := 8) (N := some 61) #[T,T,T,T,T,T,T,T,T,F,T,T,F,F] rfl rfl (one_of HT_.out (by kernel_rfl)) (by decide) (fun K hK => ?_)
             refine goes_ Tryd.func18 (by kernel_rfl) rfl #[.int .i64 x7_2] (by rfl) rfl rfl (by (try simp only [List.map_toArray, List.map_cons, List.map_nil]); first | done | rfl | (simp only [List.length_drop, List.length_take]; rfl)) ?_
             with_reducible refine (impl_HexKind.calls x7_2 t175 _ ?side1 A39.out).mono ?_
             (case side1 => first | exact HTL.out | exact TabAt.below HTL.out (bu HB.out))
             rintro e w46 ⟨rfl, hb⟩
             refine ⟨_, rfl, ?_⟩
             have n0_ := am (Kd.R_below (ru HO_4.out) hb)
             have n1_ := am (blk_below (g := gb161) (o := .cells #[.int .i64 t159, .bool t160] 25 (0, 0)) (gu BK161.out) hb)
             have n2_ := am (below_step (bu HB.out) hb)
             clear HO_4
             clear BK161
             clear HB
             have HO_4 := n0_
             have BK161 := n1_
             have HB := n2_
             clear n0_ n1_ n2_
             (try clear hb)
             (try clear hb2)
             (try clear hk)
             (try clear hi)
             refine hK.out _ _ ⟨(blk_cell BK161.out 0).trans rfl, (blk_cell BK161.out 1).trans rfl⟩ (fun hHeld => ?_)
             clear hK K
             refine norm_ (a' := ?_) ?_ ?_
             rotate_left
             ·show Act.put _ (some 61) _ = _
              simp only [Act.put, sA, sZ, sS, i64_w, i32_w]
              rfl
             refine pz 9 (some 62) #[T,T,T,T,T,T,T,T,T,T,T,T,F,F] (any_of HT_.out (by kernel_rfl)) (h := ?_)
             refine pz 12 (some 65) #[T,T,T,T,T,T,T,T,T,T,T,T,T,F] (any_of HT_.out (by kernel_rfl)) (h := ?_)
             refine pz 13 (some 66) #[T,T,T,T,T,T,T,T,T,T,T,T,T,T] (any_of HT_.out (by kernel_rfl)) (h := ?_)
             refine done_ (done_of HT_.out (by kernel_rfl)) ?_
             try go_wp2
             go_roundg kj24
             case measure => have := HJ5.out; have := HK2.out; have := HJ24.out; omega
             case rel => exact ⟨(x6_24), (wrap64 (x7_2 + 1)), (by first | rfl | (simp; done) | (simp [*]; done)), (by first | rfl | (simp; done) | (simp [*]; done)), H', ⟨by have := HJ5.out; have := HK2.out; have := HJ24.out; omega⟩, ⟨ru HO_4.out⟩, ⟨gu BK161.out⟩, ⟨bu HB.out⟩⟩
           ·rw [if_neg c38] at H
            have c38b0 : (t174.toList == ([66] : List UInt8)) = false := beq_eq_false_iff_ne.mpr c38
            have c38b1 : (t174.toList != ([66] : List UInt8)) = true := bne_iff_ne.mpr c38
            have H' := am H
            clear H
            try go_wp2
            have n0_ := am (Kd.R_drew HO_4.out)
            have n1_ := am (blk_drew BK161.out)
            have n2_ := am (below_drew1 HB.out)
            clear HO_4
            clear BK161
            clear HB
            have HO_4 := n0_
            have BK161 := n1_
            have HB := n2_
            clear n0_ n1_ n2_
            refine start_ (n := 14) (S := fun w' => w'.cell? ⟨gb161, 0, none⟩ = some (.int .i64 t159) ∧ w'.cell? ⟨gb161, 1, none⟩ = some (.bool t160)) (ds := []) #[F,F,F,F,F,F,F,F,F,F,F,F,F,F] (by kernel_rfl) rfl rfl ⟨(blk_cell BK161.out 0).trans rfl, (blk_cell BK161.out 1).trans rfl⟩ (fun hHeld => ?_); refine with_tabW laws_FnHexAll.tab17 laws_FnHexAll.bits17 (fun HT_ HW_ => ?_)
            generalize wc.drew = w47 at HO_4 BK161 HB hHeld ⊢
            refine pz 0 (some 53) #[T,F,F,F,F,F,F,F,F,F,F,F,F,F] (any_of HT_.out (by kernel_rfl)) (h := ?_)
            refine pz 1 (some 54) #[T,T,F,F,F,F,F,F,F,F,F,F,F,F] (any_of HT_.out (by kernel_rfl)) (h := ?_)
            refine tz hHeld 2 (some 55) #[T,T,T,F,F,F,F,F,F,F,F,F,F,F] (take_ofW HT_.out HW_.out (by kernel_rfl)) (h := ?_)
            refine one_ (i := 3) (N := some 56) #[T,T,T,T,F,F,F,F,F,F,F,F,F,F] rfl rfl (one_of HT_.out (by kernel_rfl)) (by decide) (fun K hK => ?_)
            refine goes_ Tryd.func34 (by kernel_rfl) rfl #[.agg #[.int .i64 t159, .bool t160]] (by rfl) rfl rfl (by (try simp only [List.map_toArray, List.map_cons, List.map_nil]); first | done | rfl | (simp only [List.length_drop, List.length_take]; rfl)) ?_
            with_reducible refine (impl_ToneLetter.calls t159 t160 t174 _ ?side1 A37.out).mono ?_
            (case side1 => first | exact HTL.out | exact TabAt.below HTL.out (bu HB.out))
            rintro e w48 ⟨rfl, hb⟩
            refine ⟨_, rfl, ?_⟩
            have n0_ := am (Kd.R_below (ru HO_4.out) hb)
            have n1_ := am (blk_below (g := gb161) (o := .cells #[.int .i64 t159, .bool t160] 25 (0, 0)) (gu BK161.out) hb)
            have n2_ := am (below_step (bu HB.out) hb)
            clear HO_4
            clear BK161
            clear HB
            have HO_4 := n0_
            have BK161 := n1_
            have HB := n2_
            clear n0_ n1_ n2_
            (try clear hb)
            (try clear hb2)
            (try clear hk)
            (try clear hi)
            refine hK.out _ _ ⟨(blk_cell BK161.out 0).trans rfl, (blk_cell BK161.out 1).trans rfl⟩ (fun hHeld => ?_)
            clear hK K
            refine norm_ (a' := ?_) ?_ ?_
            rotate_left
            ·show Act.put _ (some 56) _ = _
             simp only [Act.put, sA, sZ, sS, i64_w, i32_w]
             rfl
            refine pz 4 (some 57) #[T,T,T,T,T,F,F,F,F,F,F,F,F,F] (any_of HT_.out (by kernel_rfl)) (h := ?_)
            refine pz 5 (some 58) #[T,T,T,T,T,T,F,F,F,F,F,F,F,F] (any_of HT_.out (by kernel_rfl)) (h := ?_)
            refine pz 6 (some 59) #[T,T,T,T,T,T,T,F,F,F,F,F,F,F] (any_of HT_.out (by kernel_rfl)) (h := ?_)
            refine pv 7 (some 60) #[T,T,T,T,T,T,T,T,F,F,F,F,F,F] (any_of HT_.out (by kernel_rfl)) (h := ?_)
            refine pv 8 (some 61) #[T,T,T,T,T,T,T,T,T,F,F,F,F,F] (any_of HT_.out (by kernel_rfl)) (h := ?_)
            refine pv 9 (some 62) #[T,T,T,T,T,T,T,T,T,T,F,F,F,F] (any_of HT_.out (by kernel_rfl)) (h := ?_)
            refine pv 10 (some 63) #[T,T,T,T,T,T,T,T,T,T,T,F,F,F] (any_of HT_.out (by kernel_rfl)) (h := ?_)
            refine pv 11 (some 64) #[T,T,T,T,T,T,T,T,T,T,T,T,F,F] (any_of HT_.out (by kernel_rfl)) (h := ?_)
            refine pv 12 (some 65) #[T,T,T,T,T,T,T,T,T,T,T,T,T,F] (any_of HT_.out (by kernel_rfl)) (h := ?_)
            refine pz 13 (some 66) #[T,T,T,T,T,T,T,T,T,T,T,T,T,T] (any_of HT_.out (by kernel_rfl)) (h := ?_)
            refine done_ (done_of HT_.out (by kernel_rfl)) ?_
            try go_wp2
            go_roundg kj24
            case measure => have := HJ5.out; have := HK2.out; have := HJ24.out; omega
            case rel => exact ⟨(x6_24), (wrap64 (x7_2 + 1)), (by first | rfl | (simp; done) | (simp [*]; done)), (by first | rfl | (simp; done) | (simp [*]; done)), H', ⟨by have := HJ5.out; have := HK2.out; have := HJ24.out; omega⟩, ⟨ru HO_4.out⟩, ⟨gu BK161.out⟩, ⟨bu HB.out⟩⟩
          ·rw [if_neg c36] at H
           have c36b0 : (decide (t172 ≥ 0)) = false := by simpa using c36
           clear c36
           have H' := am H
           clear H
           try go_wp2
           have n0_ := am (Kd.R_drew HO_4.out)
           have n1_ := am (blk_drew BK161.out)
           have n2_ := am (below_drew1 HB.out)
           clear HO_4
           clear BK161
           clear HB
           have HO_4 := n0_
           have BK161 := n1_
           have HB := n2_
           clear n0_ n1_ n2_
           refine start_ (n := 14) (S := fun w' => True) (ds := []) #[F,F,F,F,F,F,F,F,F,F,F,F,F,F] (by kernel_rfl) rfl rfl trivial (fun hHeld => ?_); refine with_tabW laws_FnHexAll.tab17 laws_FnHexAll.bits17 (fun HT_ HW_ => ?_)
           generalize wc.drew = w49 at HO_4 BK161 HB hHeld ⊢
           refine pz 0 (some 53) #[T,F,F,F,F,F,F,F,F,F,F,F,F,F] (any_of HT_.out (by kernel_rfl)) (h := ?_)
           refine pz 1 (some 54) #[T,T,F,F,F,F,F,F,F,F,F,F,F,F] (any_of HT_.out (by kernel_rfl)) (h := ?_)
           refine pv 2 (some 55) #[T,T,T,F,F,F,F,F,F,F,F,F,F,F] (any_of HT_.out (by kernel_rfl)) (h := ?_)
           refine pv 3 (some 56) #[T,T,T,T,F,F,F,F,F,F,F,F,F,F] (any_of HT_.out (by kernel_rfl)) (h := ?_)
           refine pv 4 (some 57) #[T,T,T,T,T,F,F,F,F,F,F,F,F,F] (any_of HT_.out (by kernel_rfl)) (h := ?_)
           refine pz 5 (some 58) #[T,T,T,T,T,T,F,F,F,F,F,F,F,F] (any_of HT_.out (by kernel_rfl)) (h := ?_)
           refine pz 6 (some 59) #[T,T,T,T,T,T,T,F,F,F,F,F,F,F] (any_of HT_.out (by kernel_rfl)) (h := ?_)
           refine pv 7 (some 60) #[T,T,T,T,T,T,T,T,F,F,F,F,F,F] (any_of HT_.out (by kernel_rfl)) (h := ?_)
           refine pv 8 (some 61) #[T,T,T,T,T,T,T,T,T,F,F,F,F,F] (any_of HT_.out (by kernel_rfl)) (h := ?_)
           refine pv 9 (some 62) #[T,T,T,T,T,T,T,T,T,T,F,F,F,F] (any_of HT_.out (by kernel_rfl)) (h := ?_)
           refine pv 10 (some 63) #[T,T,T,T,T,T,T,T,T,T,T,F,F,F] (any_of HT_.out (by kernel_rfl)) (h := ?_)
           refine pv 11 (some 64) #[T,T,T,T,T,T,T,T,T,T,T,T,F,F] (any_of HT_.out (by kernel_rfl)) (h := ?_)
           refine pv 12 (some 65) #[T,T,T,T,T,T,T,T,T,T,T,T,T,F] (any_of HT_.out (by kernel_rfl)) (h := ?_)
           refine pz 13 (some 66) #[T,T,T,T,T,T,T,T,T,T,T,T,T,T] (any_of HT_.out (by kernel_rfl)) (h := ?_)
           refine done_ (done_of HT_.out (by kernel_rfl)) ?_
           try go_wp2
           go_roundg kj24
           case measure => have := HJ5.out; have := HK2.out; have := HJ24.out; omega
           case rel => exact ⟨(x6_24), (wrap64 (x7_2 + 1)), (by first | rfl | (simp; done) | (simp [*]; done)), (by first | rfl | (simp; done) | (simp [*]; done)), H', ⟨by have := HJ5.out; have := HK2.out; have := HJ24.out; omega⟩, ⟨ru HO_4.out⟩, ⟨gu BK161.out⟩, ⟨bu HB.out⟩⟩
       ·rw [if_neg c23] at H
        have c23b0 : decide (x7_2 ≤ 20) = false := decide_eq_false c23
        clear c23
        by_cases c50 : x6_2 = (t162.length : Int)
        ·rw [if_pos c50] at H
         have c50b0 : (x6_2 == (t162.length : Int)) = true := beq_iff_eq.mpr c50
         have c50b1 : (x6_2 != (t162.length : Int)) = false := bne_eq_false_iff_eq.mpr c50
         clear c50
         replace H := Option.bind_eq_some_iff.mp H
         obtain ⟨t170, A510, H⟩ := H
         replace H : ((laws_names.f k2 t170).bind fun t171 => (if t171 = x6_2 then (some (decide (x6_2 ≤ 3))) else (some false))) = some r := H
         have A51 := am A510
         clear A510
         replace H := Option.bind_eq_some_iff.mp H
         obtain ⟨t171, A520, H⟩ := H
         replace H : (if t171 = x6_2 then (some (decide (x6_2 ≤ 3))) else (some false)) = some r := H
         have A52 := am A520
         clear A520
         by_cases c53 : t171 = x6_2
         ·rw [if_pos c53] at H
          have c53b0 : (t171 == x6_2) = true := beq_iff_eq.mpr c53
          have c53b1 : (t171 != x6_2) = false := bne_eq_false_iff_eq.mpr c53
          clear c53
          obtain rfl := Option.some.inj H
          obtain ⟨Ao54, co54, eo54⟩ := Kd.R_slice HO_4.out
          subst eo54
          have hcz55_0 : wr.cell? ⟨gb161, 0, none⟩ = some (.int .i64 t159) := (blk_cell BK161.out 0).trans rfl
          have hcz55_1 : wr.cell? ⟨gb161, 1, none⟩ = some (.bool t160) := (blk_cell BK161.out 1).trans rfl
          have hfz55_0 := blk_frozen BK161.out 0
          have hfz55_1 := blk_frozen BK161.out 1
          go_wp2_with (first | (go_at_call 36; (with_reducible refine (impl_ToneNames.calls t159 t160 t170 _ ?side1 ?side2 A51.out).mono ?_); (case side1 => first | exact HTL.out | exact TabAt.below HTL.out (bu HB.out)); (case side2 => first | exact HTS.out | exact TabAt.below HTS.out (bu HB.out)); rintro e w56 ⟨rfl, hb⟩; have n0_ := am (Kd.R_below (ru HO_4.out) hb); have n1_ := am (blk_below (g := gb161) (o := .cells #[.int .i64 t159, .bool t160] 25 (0, 0)) (gu BK161.out) hb); have n2_ := am (below_step (bu HB.out) hb); clear HO_4; clear BK161; clear HB; have HO_4 := n0_; have BK161 := n1_; have HB := n2_; clear n0_ n1_ n2_; (try clear hb); (try clear hb2); (try clear hk); (try clear hi)) | (go_at_call 35; (with_reducible refine (laws_names.calls k2 t170 t171 _ A52.out).mono ?_); rintro e w' ⟨rfl, ⟨nd, rfl⟩⟩))
          go_ret
          exact ⟨by first | rfl | (simp [errW_none, errW_some] <;> rfl) | (simp [*, errW_none, errW_some] <;> rfl), bu HB.out⟩
         ·rw [if_neg c53] at H
          have c53b0 : (t171 == x6_2) = false := beq_eq_false_iff_ne.mpr c53
          have c53b1 : (t171 != x6_2) = true := bne_iff_ne.mpr c53
          obtain rfl := Option.some.inj H
          obtain ⟨Ao57, co57, eo57⟩ := Kd.R_slice HO_4.out
          subst eo57
          have hcz58_0 : wr.cell? ⟨gb161, 0, none⟩ = some (.int .i64 t159) := (blk_cell BK161.out 0).trans rfl
          have hcz58_1 : wr.cell? ⟨gb161, 1, none⟩ = some (.bool t160) := (blk_cell BK161.out 1).trans rfl
          have hfz58_0 := blk_frozen BK161.out 0
          have hfz58_1 := blk_frozen BK161.out 1
          go_wp2_with (first | (go_at_call 36; (with_reducible refine (impl_ToneNames.calls t159 t160 t170 _ ?side1 ?side2 A51.out).mono ?_); (case side1 => first | exact HTL.out | exact TabAt.below HTL.out (bu HB.out)); (case side2 => first | exact HTS.out | exact TabAt.below HTS.out (bu HB.out)); rintro e w59 ⟨rfl, hb⟩; have n0_ := am (Kd.R_below (ru HO_4.out) hb); have n1_ := am (blk_below (g := gb161) (o := .cells #[.int .i64 t159, .bool t160] 25 (0, 0)) (gu BK161.out) hb); have n2_ := am (below_step (bu HB.out) hb); clear HO_4; clear BK161; clear HB; have HO_4 := n0_; have BK161 := n1_; have HB := n2_; clear n0_ n1_ n2_; (try clear hb); (try clear hb2); (try clear hk); (try clear hi)) | (go_at_call 35; (with_reducible refine (laws_names.calls k2 t170 t171 _ A52.out).mono ?_); rintro e w' ⟨rfl, ⟨nd, rfl⟩⟩))
          go_ret
          exact ⟨by first | rfl | (simp [errW_none, errW_some] <;> rfl) | (simp [*, errW_none, errW_some] <;> rfl), bu HB.out⟩
        ·rw [if_neg c50] at H
         have c50b0 : (x6_2 == (t162.length : Int)) = false := beq_eq_false_iff_ne.mpr c50
         have c50b1 : (x6_2 != (t162.length : Int)) = true := bne_iff_ne.mpr c50
         obtain rfl := Option.some.inj H
         obtain ⟨Ao60, co60, eo60⟩ := Kd.R_slice HO_4.out
         subst eo60
         go_wp2
         go_ret
         exact ⟨by first | rfl | (simp [errW_none, errW_some] <;> rfl) | (simp [*, errW_none, errW_some] <;> rfl), bu HB.out⟩

end Go.Proofs.YtjefoedojglhpaaDoor.HA
