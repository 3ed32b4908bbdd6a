-- Made by this session's gprint.py out of the translation. Not trusted: Lean checks it.
import Derived.Test.YtdodkidnblmheaaDoorSLx0
import Derived.Test.YtdodkidnblmheaaDoorSLx1
import Derived.Test.YtdodkidnblmheaaDoorSLx2
import Derived.Test.YtdodkidnblmheaaDoorSLx4
namespace Go.Proofs.YtdodkidnblmheaaDoor.SL
open Go.RowKit Go.Proofs.YtdodkidnblmheaaDoorW.PrintWords Go.Proofs.YtdodkidnblmheaaDoorW.PrintLast Go.Proofs.YtdodkidnblmheaaDoorW.PrintMore
attribute [local go_sem] max2_int min2_int max_two min_two max_three min_three max_four min_four   -- for this text's walks alone
set_option linter.unusedVariables false
set_option linter.unusedSimpArgs false

/-! ### laws_FnStemFill: function 3 -/
mutual
def laws_FnStemFill.j0 : Nat → List Int → List Int → Bool → Option (Bool)
 | 0, _, _, _ => none
 | k + 1, x0, x1, x23 => if x23 = true then (some true) else ((spec_DrawStemFill.f k x0).bind fun bt284 => ((impl_StemFill.f k bt284.1 bt284.2).bind fun bt290 => ((spec_StemFill.f k bt284.1 bt284.2).bind fun bt294 => (if (bt290.2 != bt294.2) = true then (laws_FnStemFill.j1 k x1 bt284.1 bt284.2 bt290.1 bt290.2 bt294.1 bt294.2 true) else ((laws_sameTexts.f k bt290.1 bt294.1).bind fun t298 => (if t298 = true then (laws_FnStemFill.j1 k x1 bt284.1 bt284.2 bt290.1 bt290.2 bt294.1 bt294.2 (!bt290.2)) else (laws_FnStemFill.j1 k x1 bt284.1 bt284.2 bt290.1 bt290.2 bt294.1 bt294.2 true)))))))
def laws_FnStemFill.j1 : Nat → List Int → List ByteArray → List Int → List ByteArray → Bool → List ByteArray → Bool → Bool → Option (Bool)
 | 0, _, _, _, _, _, _, _, _ => none
 | k + 1, x1, x5, x6, x7, x8, x9, x10, x53 => if x53 = true then (if (x8 == x10) = true then ((laws_sameTexts.f k x7 x9).bind fun t299 => (some t299)) else (some false)) else ((impl_StemChanges.f k x7 x6).bind fun t300 => ((impl_StemFewest.f k x5 x6).bind fun t301 => (if t300 = t301 then (laws_FnStemFill.l0 k x1 x5 x6 x7 t300 0) else (some false))))
def laws_FnStemFill.l0 : Nat → List Int → List ByteArray → List Int → List ByteArray → Int → Int → Option (Bool)
 | 0, _, _, _, _, _, _ => none
 | k + 1, x1, x5, x6, x7, x11, x12 => if x12 < (x5.length : Int) then (if 0 ≤ x12 then ((laws_lost.f (rdOf ByteArray.empty x5 x12)).bind fun t303 => (if t303 = true then (laws_FnStemFill.j3 k x1 x5 x6 x7 x11 x12 false) else (if x12 < (x7.length : Int) then (laws_FnStemFill.j3 k x1 x5 x6 x7 x11 x12 ((rdOf ByteArray.empty x7 x12).toList != (rdOf ByteArray.empty x5 x12).toList)) else (none)))) else (none)) else (some ((x7.length : Int) == (x5.length : Int)))
def laws_FnStemFill.j3 : Nat → List Int → List ByteArray → List Int → List ByteArray → Int → Int → Bool → Option (Bool)
 | 0, _, _, _, _, _, _, _ => none
 | k + 1, x1, x5, x6, x7, x11, x12, x92 => if x92 = true then (some false) else (laws_FnStemFill.l1 k x1 x5 x6 x7 x11 x12 0)
def laws_FnStemFill.l1 : Nat → List Int → List ByteArray → List Int → List ByteArray → Int → Int → Int → Option (Bool)
 | 0, _, _, _, _, _, _, _ => none
 | k + 1, x1, x5, x6, x7, x11, x12, x13 => if x13 < 4 then (if 0 ≤ x12 then (if x12 < (x5.length : Int) then ((laws_lost.f (rdOf ByteArray.empty x5 x12)).bind fun t307 => (laws_FnStemFill.j5 k x1 x5 x6 x7 x11 x12 x13 t307)) else (none)) else (none)) else (laws_FnStemFill.j5 k x1 x5 x6 x7 x11 x12 x13 false)
def laws_FnStemFill.j5 : Nat → List Int → List ByteArray → List Int → List ByteArray → Int → Int → Int → Bool → Option (Bool)
 | 0, _, _, _, _, _, _, _, _ => none
 | k + 1, x1, x5, x6, x7, x11, x12, x13, x101 => if x101 = true then (if 0 ≤ x12 then (if x12 < (x7.length : Int) then (if ((rdOf ByteArray.empty x7 x12).size : Int) = 0 then (none) else ((some (([] : List ByteArray) : List ByteArray)).bind fun y309 => (if y309.length + x7.length < 8796093022208 then ((some (y309 ++ x7 : List ByteArray)).bind fun y312 => (if 0 ≤ ((x1.length : Int) % ((rdOf ByteArray.empty x7 x12).size : Int)) then (if ((x1.length : Int) % ((rdOf ByteArray.empty x7 x12).size : Int)) ≤ ((rdOf ByteArray.empty x7 x12).size : Int) then (if 0 ≤ x13 then (if x13 ≤ (wrap64 (x13 + 1)) then (if (wrap64 (x13 + 1)) ≤ 4 then (if ((rdOf ByteArray.empty x7 x12).extract 0 (((x1.length : Int) % ((rdOf ByteArray.empty x7 x12).size : Int)) : Int).toNat).size + ((⟨#[97, 98, 99, 100]⟩ : ByteArray).extract (x13 : Int).toNat ((wrap64 (x13 + 1)) : Int).toNat).size ≤ 9223372036854775807 then (if 0 ≤ (wrap64 (((x1.length : Int) % ((rdOf ByteArray.empty x7 x12).size : Int)) + 1)) then (if (wrap64 (((x1.length : Int) % ((rdOf ByteArray.empty x7 x12).size : Int)) + 1)) ≤ ((rdOf ByteArray.empty x7 x12).size : Int) then (if (((rdOf ByteArray.empty x7 x12).extract 0 (((x1.length : Int) % ((rdOf ByteArray.empty x7 x12).size : Int)) : Int).toNat) ++ ((⟨#[97, 98, 99, 100]⟩ : ByteArray).extract (x13 : Int).toNat ((wrap64 (x13 + 1)) : Int).toNat)).size + ((rdOf ByteArray.empty x7 x12).extract ((wrap64 (((x1.length : Int) % ((rdOf ByteArray.empty x7 x12).size : Int)) + 1)) : Int).toNat (rdOf ByteArray.empty x7 x12).size).size ≤ 9223372036854775807 then (if x12 < (y312.length : Int) then ((impl_StemChanges.f k (y312.set (x12 : Int).toNat ((((rdOf ByteArray.empty x7 x12).extract 0 (((x1.length : Int) % ((rdOf ByteArray.empty x7 x12).size : Int)) : Int).toNat) ++ ((⟨#[97, 98, 99, 100]⟩ : ByteArray).extract (x13 : Int).toNat ((wrap64 (x13 + 1)) : Int).toNat)) ++ ((rdOf ByteArray.empty x7 x12).extract ((wrap64 (((x1.length : Int) % ((rdOf ByteArray.empty x7 x12).size : Int)) + 1)) : Int).toNat (rdOf ByteArray.empty x7 x12).size))) x6).bind fun t318 => (if t318 < x11 then (some false) else (laws_FnStemFill.l1 k x1 x5 x6 x7 x11 x12 (wrap64 (x13 + 1))))) else (none)) else (none)) else (none)) else (none)) else (none)) else (none)) else (none)) else (none)) else (none)) else (none))) else (none)))) else (none)) else (none)) else (laws_FnStemFill.l0 k x1 x5 x6 x7 x11 (wrap64 (x12 + 1)))
end
def laws_FnStemFill.f (k : Nat) (l0 : List Int) (l1 : List Int) : Option (Bool) := if (l0.length : Int) > 1048576 then (laws_FnStemFill.j0 k l0 l1 true) else (laws_FnStemFill.j0 k l0 l1 (decide ((l1.length : Int) > 1048576)))
def laws_FnStemFill.T14 : Bool × List (List Nat × List Nat) := (true, [([], []), ([], []), ([0, 1], [0, 1]), ([2], [2]), ([3], [3]), ([4], [4]), ([5, 4], [5]), ([6], [6]), ([6], [6]), ([7, 8, 6], [6, 7, 8]), ([9, 6], [6, 9]), ([6], [6]), ([6], [6]), ([11, 12, 6], [6, 11, 12]), ([13, 6], [6, 13]), ([10, 14, 6], [6, 10, 14]), ([6, 15], [6, 15])])
def laws_FnStemFill.B14 : List Nat := [0, 0, 3, 7, 15, 31, 63, 127, 127, 511, 1023, 127, 127, 6271, 14463, 32767, 65535]
theorem laws_FnStemFill.tab14 : rtab .any (opsOf Tryd.f3 14) = laws_FnStemFill.T14 := by kernel_rfl
theorem laws_FnStemFill.bits14 : waitsOk laws_FnStemFill.T14.2 laws_FnStemFill.B14 = true := by kernel_rfl
def laws_FnStemFill.T21 : Bool × List (List Nat × List Nat) := (true, [([], []), ([], []), ([], []), ([], []), ([2, 3], [2, 3]), ([4], [4]), ([], []), ([5, 6], [5, 6]), ([], []), ([], []), ([9], [9]), ([8, 10], [8, 10]), ([7, 11], [7, 11]), ([], []), ([], []), ([13, 14], [13, 14]), ([15], [15]), ([], []), ([17], [17]), ([16, 18], [16, 18]), ([12, 19], [12, 19]), ([0, 1, 0, 1, 2, 3, 4, 5, 6, 7, 8, 9, 10, 11, 12, 13, 14, 15, 16, 17, 18, 19, 20], [0, 1]), ([21, 20, 0, 1, 2, 3, 4, 5, 6, 7, 8, 9, 10, 11, 12, 13, 14, 15, 16, 17, 18, 19, 20], [20, 21])])
def laws_FnStemFill.B21 : List Nat := [0, 0, 0, 0, 12, 28, 0, 124, 0, 0, 512, 1792, 4092, 0, 0, 24576, 57344, 0, 131072, 516096, 1048572, 2097151, 4194303]
theorem laws_FnStemFill.tab21 : rtab .any (opsOf Tryd.f3 21) = laws_FnStemFill.T21 := by kernel_rfl
theorem laws_FnStemFill.bits21 : waitsOk laws_FnStemFill.T21.2 laws_FnStemFill.B21 = true := by kernel_rfl
set_option maxHeartbeats 8000000 in
set_option maxRecDepth 100000 in
theorem laws_FnStemFill.calls (k : Nat) (A0 : Option Addr) (c0 : Nat) (l0 : List Int) (A1 : Option Addr) (c1 : Nat) (l1 : List Int) (r : Bool) (w : World) (hr0 : Kd.C (Kd.int .u8) w A0 l0.length l0) (hc0 : l0.length ≤ c0) (hr1 : Kd.C (Kd.int .u8) w A1 l1.length l1) (hc1 : l1.length ≤ c1) (h : laws_FnStemFill.f k l0 l1 = some r) :
  Calls Tryd.prog 3 #[.slice A0 l0.length c0, .slice A1 l1.length c1] w fun e w' => e = .returned (.bool r) ∧ Below w.heap.size w w' := by
 have HR0 := am hr0
 have HC0 := am hc0
 clear hr0 hc0
 have HR1 := am hr1
 have HC1 := am hc1
 clear hr1 hc1
 have HB := am (Below.refl w.heap.size w)
 have H : (if (l0.length : Int) > 1048576 then (laws_FnStemFill.j0 k l0 l1 true) else (laws_FnStemFill.j0 k l0 l1 (decide ((l1.length : Int) > 1048576)))) = some r := h
 clear h
 have HC3 := am H
 clear H
 go_enter Tryd.func3, Tryd.ntmps3
 go_upto_region 1 with (fail)
 go_cut [23] (fun v23 wc => ∃ (kq : Nat) (x23_2 : Bool), v23 = .bool x23_2 ∧ Aside0 (laws_FnStemFill.j0 kq l0 l1 x23_2 = some r) ∧ Aside0 (kq ≤ k) ∧ Aside0 (Below w.heap.size w wc))
 case first =>
  have H := HC3.out
  clear HC3
  by_cases c4 : (l0.length : Int) > 1048576
  ·rw [if_pos c4] at H
   have c4b0 : decide (1048576 < (l0.length : Int)) = true := decide_eq_true c4
   have c4b1 : decide (1048576 < l0.length) = true := decide_eq_true (by omega)
   clear c4
   (first | rw [c4b0] | (simp only [i64_w, i32_w]; rw [c4b0]) | skip)
   have H' := am H
   clear H
   go_wp2
   go_meet
   case rel => exact ⟨_, (true), (by first | rfl | (simp; done) | (simp [*]; done)), H', ⟨by first | omega | exact Nat.le_refl _⟩, ⟨bu HB.out⟩⟩
  ·rw [if_neg c4] at H
   have c4b0 : decide (1048576 < (l0.length : Int)) = false := decide_eq_false c4
   have c4b1 : decide (1048576 < l0.length) = false := decide_eq_false (by omega)
   clear c4
   (first | rw [c4b0] | (simp only [i64_w, i32_w]; rw [c4b0]) | skip)
   have H' := am H
   clear H
   go_wp2
   go_meet
   case rel => exact ⟨_, (decide ((l1.length : Int) > 1048576)), (by first | rfl | (simp; done) | (simp [*]; done)), H', ⟨by first | omega | exact Nat.le_refl _⟩, ⟨bu HB.out⟩⟩
 case rest =>
  clear HC3
  try clear c1
  try clear p2
  try clear c3
  try clear c4
  try clear c4b0
  try clear c4b1
  obtain ⟨kq, x23_2, rfl, HA, HJ2, HB⟩ := hcut
  cases kq with
  | zero => exact absurd HA.out (by simp [laws_FnStemFill.j0])
  | succ kj2 =>
   have H := HA.out
   clear HA
   simp only [laws_FnStemFill.j0] at H
   by_cases c5 : x23_2 = true
   ·subst c5
    have H1 : (some true) = some r := by rw [if_pos rfl] at H; exact H
    clear H
    have H := H1
    clear H1
    obtain rfl := Option.some.inj H
    go_wp2
    go_ret
    exact ⟨by first | rfl | (simp [errW_none, errW_some] <;> rfl) | (simp [*, errW_none, errW_some] <;> rfl), bu HB.out⟩
   ·replace c5 := Bool.eq_false_iff.mpr c5
    subst c5
    have H1 : ((spec_DrawStemFill.f kj2 l0).bind fun bt284 => ((impl_StemFill.f kj2 bt284.1 bt284.2).bind fun bt290 => ((spec_StemFill.f kj2 bt284.1 bt284.2).bind fun bt294 => (if (bt290.2 != bt294.2) = true then (laws_FnStemFill.j1 kj2 l1 bt284.1 bt284.2 bt290.1 bt290.2 bt294.1 bt294.2 true) else ((laws_sameTexts.f kj2 bt290.1 bt294.1).bind fun t298 => (if t298 = true then (laws_FnStemFill.j1 kj2 l1 bt284.1 bt284.2 bt290.1 bt290.2 bt294.1 bt294.2 (!bt290.2)) else (laws_FnStemFill.j1 kj2 l1 bt284.1 bt284.2 bt290.1 bt290.2 bt294.1 bt294.2 true))))))) = some r := by rw [if_neg (show ¬ (false = true) by decide)] at H; exact H
    clear H
    have H := H1
    clear H1
    replace H := Option.bind_eq_some_iff.mp H
    obtain ⟨⟨t284, t285⟩, A60, H⟩ := H
    replace H : ((impl_StemFill.f kj2 t284 t285).bind fun bt290 => ((spec_StemFill.f kj2 t284 t285).bind fun bt294 => (if (bt290.2 != bt294.2) = true then (laws_FnStemFill.j1 kj2 l1 t284 t285 bt290.1 bt290.2 bt294.1 bt294.2 true) else ((laws_sameTexts.f kj2 bt290.1 bt294.1).bind fun t298 => (if t298 = true then (laws_FnStemFill.j1 kj2 l1 t284 t285 bt290.1 bt290.2 bt294.1 bt294.2 (!bt290.2)) else (laws_FnStemFill.j1 kj2 l1 t284 t285 bt290.1 bt290.2 bt294.1 bt294.2 true)))))) = some r := H
    have A6 := am A60
    clear A60
    replace H := Option.bind_eq_some_iff.mp H
    obtain ⟨⟨t290, t291⟩, A70, H⟩ := H
    replace H : ((spec_StemFill.f kj2 t284 t285).bind fun bt294 => (if (t291 != bt294.2) = true then (laws_FnStemFill.j1 kj2 l1 t284 t285 t290 t291 bt294.1 bt294.2 true) else ((laws_sameTexts.f kj2 t290 bt294.1).bind fun t298 => (if t298 = true then (laws_FnStemFill.j1 kj2 l1 t284 t285 t290 t291 bt294.1 bt294.2 (!t291)) else (laws_FnStemFill.j1 kj2 l1 t284 t285 t290 t291 bt294.1 bt294.2 true))))) = some r := H
    have A7 := am A70
    clear A70
    replace H := Option.bind_eq_some_iff.mp H
    obtain ⟨⟨t294, t295⟩, A80, H⟩ := H
    replace H : (if (t291 != t295) = true then (laws_FnStemFill.j1 kj2 l1 t284 t285 t290 t291 t294 t295 true) else ((laws_sameTexts.f kj2 t290 t294).bind fun t298 => (if t298 = true then (laws_FnStemFill.j1 kj2 l1 t284 t285 t290 t291 t294 t295 (!t291)) else (laws_FnStemFill.j1 kj2 l1 t284 t285 t290 t291 t294 t295 true)))) = some r := H
    have A8 := am A80
    clear A80
    have HC9 := am H
    clear H
    go_upto_region 6 with (first | ((with_reducible refine gate_callee (f := 4) rfl ?_); refine goesL_ (some 26) rfl rfl Tryd.func4 (by kernel_rfl) rfl #[.slice A0 l0.length c0] rfl (by (try simp only [List.map_toArray, List.map_cons, List.map_nil]); first | done | rfl | (simp only [List.length_drop, List.length_take]; rfl)) ?_; (with_reducible refine (spec_DrawStemFill.calls kj2 _ _ l0 t284 t285 _ ?side1 ?side2 A6.out).mono ?_); (case side1 => repeat (first | exact (Kd.C_below HR0.out HB.out) | (with_reducible refine Kd.C_alloc ?_ _) | (with_reducible refine Kd.C_drewN ?_ _) | (with_reducible refine Kd.C_drew ?_))); (case side2 => exact HC0.out); rintro e w10 ⟨v286, v288, rfl, ho0, ho1, hb⟩; refine ⟨_, rfl, ?_⟩; have n0_ := am (Kd.R_lower ho0 (below_size (bu HB.out))); have n1_ := am (Kd.Q_lower ho1 (below_size (bu HB.out))); have n2_ := am (below_step (bu HB.out) hb); clear HB; have HO287 := n0_; have HO289 := n1_; have HB := n2_; clear n0_ n1_ n2_; (try clear hb); (try clear hb2); (try clear hk); (try clear hi); (try clear ho0); (try clear ho1); obtain ⟨Ao11, co11, eo11⟩ := Kd.R_slice HO287.out; subst eo11; obtain ⟨Ao12, co12, eo12, _⟩ := Kd.Q_slice HO289.out; subst eo12) | ((with_reducible refine gate_callee (f := 5) rfl ?_); refine goesL_ (some 32) rfl rfl Tryd.func5 (by kernel_rfl) rfl #[.slice Ao11 t284.length co11, .slice Ao12 t285.length co12] rfl (by (try simp only [List.map_toArray, List.map_cons, List.map_nil]); first | done | rfl | (simp only [List.length_drop, List.length_take]; rfl)) ?_; (with_reducible refine (impl_StemFill.calls kj2 _ _ t284 _ _ t285 t290 t291 _ ?side1 ?side2 ?side3 ?side4 A7.out).mono ?_); (case side1 => exact cu (Kd.R_reads' HO287.out).2.2); (case side2 => exact (Kd.R_reads' HO287.out).2.1); (case side3 => repeat (first | exact (Kd.Q_reads' HO289.out).2.2 | (with_reducible refine Kd.C_alloc ?_ _) | (with_reducible refine Kd.C_drewN ?_ _) | (with_reducible refine Kd.C_drew ?_))); (case side4 => exact (Kd.Q_reads' HO289.out).2.1); rintro e w13 ⟨v292, rfl, ho0, hb⟩; refine ⟨_, rfl, ?_⟩; have n0_ := am (Kd.R_elder' (ru HO287.out) (Kd.R_base ho0) hb); have n1_ := am (Kd.Q_below (by (with_reducible repeat (first | apply Kd.Q_alloc | apply Kd.Q_drewN | apply Kd.Q_drew)); exact HO289.out) hb); have n2_ := am (Kd.R_lower (Kd.R_new' ho0 (Kd.R_lt (ru HO287.out))) (below_size (bu HB.out))); have n3_ := am (below_step (bu HB.out) hb); clear HO287; clear HO289; clear HB; have HO287 := n0_; have HO289 := n1_; have HO293 := n2_; have HB := n3_; clear n0_ n1_ n2_ n3_; (try clear hb); (try clear hb2); (try clear hk); (try clear hi); (try clear ho0)) | ((with_reducible refine gate_callee (f := 6) rfl ?_); refine goesL_ (some 38) rfl rfl Tryd.func6 (by kernel_rfl) rfl #[.slice Ao11 t284.length co11, .slice Ao12 t285.length co12] rfl (by (try simp only [List.map_toArray, List.map_cons, List.map_nil]); first | done | rfl | (simp only [List.length_drop, List.length_take]; rfl)) ?_; (with_reducible refine (spec_StemFill.calls kj2 _ _ t284 _ _ t285 t294 t295 _ ?side1 ?side2 ?side3 ?side4 A8.out).mono ?_); (case side1 => exact cu (Kd.R_reads' HO287.out).2.2); (case side2 => exact (Kd.R_reads' HO287.out).2.1); (case side3 => repeat (first | exact (Kd.Q_reads' HO289.out).2.2 | (with_reducible refine Kd.C_alloc ?_ _) | (with_reducible refine Kd.C_drewN ?_ _) | (with_reducible refine Kd.C_drew ?_))); (case side4 => exact (Kd.Q_reads' HO289.out).2.1); rintro e w14 ⟨v296, rfl, ho0, hb⟩; refine ⟨_, rfl, ?_⟩; have n0_ := am (Kd.R_elder' (ru HO287.out) (Kd.R_base ho0) hb); have n1_ := am (Kd.Q_below (by (with_reducible repeat (first | apply Kd.Q_alloc | apply Kd.Q_drewN | apply Kd.Q_drew)); exact HO289.out) hb); have n2_ := am (Kd.R_elder' (ru HO293.out) (Kd.R_base ho0) hb); have n3_ := am (Kd.R_lower (Kd.R_new' (Kd.R_new' ho0 (Kd.R_lt (ru HO287.out))) (Kd.R_lt (ru HO293.out))) (below_size (bu HB.out))); have n4_ := am (below_step (bu HB.out) hb); clear HO287; clear HO289; clear HO293; clear HB; have HO287 := n0_; have HO289 := n1_; have HO293 := n2_; have HO297 := n3_; have HB := n4_; clear n0_ n1_ n2_ n3_ n4_; (try clear hb); (try clear hb2); (try clear hk); (try clear hi); (try clear ho0)))
    (try simp only [Act.put, sA, sZ, sS])
    go_cut [53] (fun v53 wc => ∃ (kq : Nat) (x53_8 : Bool), v53 = .bool x53_8 ∧ Aside0 (laws_FnStemFill.j1 kq l1 t284 t285 t290 t291 t294 t295 x53_8 = some r) ∧ Aside0 (kq ≤ kj2) ∧ Aside0 (Kd.R Kd.string 9 wc w.heap.size (fun k_ => some k_ ≠ (v292 : Value).ownBlock ∧ some k_ ≠ (v296 : Value).ownBlock) (.slice Ao11 t284.length co11) t284) ∧ Aside0 (Kd.Q (Kd.int .i64) 3 wc w.heap.size (fun _ => True) (.slice Ao12 t285.length co12) t285) ∧ Aside0 (Kd.R Kd.string 9 wc w.heap.size (fun k_ => some k_ ≠ ((.slice Ao11 t284.length co11) : Value).ownBlock ∧ some k_ ≠ (v296 : Value).ownBlock) v292 t290) ∧ Aside0 (Kd.R Kd.string 9 wc w.heap.size (fun k_ => some k_ ≠ ((.slice Ao11 t284.length co11) : Value).ownBlock ∧ some k_ ≠ (v292 : Value).ownBlock) v296 t294) ∧ Aside0 (Below w.heap.size w wc))
    case first =>
     have H := HC9.out
     clear HC9
     by_cases c15 : (t291 != t295) = true
     ·rw [if_pos c15] at H
      have c15b0 : (t291 != t295) = true := c15
      (try (have c15b1 : decide (t291 = t295) = false := by simpa using c15))
      (try (have c15b2 : (t291 == t295) = false := by simpa using c15))
      (try (have c15b3 : ¬ (t291 = t295) := by simpa using c15))
      clear c15
      (first | rw [c15b0] | (simp only [i64_w, i32_w]; rw [c15b0]) | skip)
      have H' := am H
      clear H
      go_wp2
      go_meet
      case rel => exact ⟨_, (true), (by first | rfl | (simp; done) | (simp [*]; done)), H', ⟨by have := HJ2.out; first | omega | exact Nat.le_refl _⟩, ⟨by (with_reducible repeat (first | apply Kd.R_alloc | apply Kd.R_drewN | apply Kd.R_drew)); exact Kd.R_mono HO287.out (fun _ hk => ⟨hk.1.2, hk.2⟩)⟩, ⟨by (with_reducible repeat (first | apply Kd.Q_alloc | apply Kd.Q_drewN | apply Kd.Q_drew)); exact HO289.out⟩, ⟨by (with_reducible repeat (first | apply Kd.R_alloc | apply Kd.R_drewN | apply Kd.R_drew)); exact Kd.R_mono HO293.out (fun _ hk => ⟨hk.1.2, hk.2⟩)⟩, ⟨by (with_reducible repeat (first | apply Kd.R_alloc | apply Kd.R_drewN | apply Kd.R_drew)); exact Kd.R_mono HO297.out (fun _ hk => ⟨hk.1.2, hk.2⟩)⟩, ⟨bu HB.out⟩⟩
     ·rw [if_neg c15] at H
      have c15b0 : (t291 != t295) = false := by simpa using c15
      (try (have c15b1 : decide (t291 = t295) = true := by simpa using c15))
      (try (have c15b2 : (t291 == t295) = true := by simpa using c15))
      clear c15
      (first | rw [c15b0] | (simp only [i64_w, i32_w]; rw [c15b0]) | skip)
      replace H := Option.bind_eq_some_iff.mp H
      obtain ⟨t298, A160, H⟩ := H
      replace H : (if t298 = true then (laws_FnStemFill.j1 kj2 l1 t284 t285 t290 t291 t294 t295 (!t291)) else (laws_FnStemFill.j1 kj2 l1 t284 t285 t290 t291 t294 t295 true)) = some r := H
      have A16 := am A160
      clear A160
      by_cases c17 : t298 = true
      ·subst c17
       have H1 : (laws_FnStemFill.j1 kj2 l1 t284 t285 t290 t291 t294 t295 (!t291)) = some r := by rw [if_pos rfl] at H; exact H
       clear H
       have H := H1
       clear H1
       have H' := am H
       clear H
       obtain ⟨Ao18, co18, eo18⟩ := Kd.R_slice HO293.out
       subst eo18
       obtain ⟨Ao19, co19, eo19⟩ := Kd.R_slice HO297.out
       subst eo19
       go_wp2_with (first | (go_at_call 7; (with_reducible refine (laws_sameTexts.calls kj2 _ _ t290 _ _ t294 true _ ?side1 ?side2 ?side3 ?side4 A16.out).mono ?_); (case side1 => exact cu (Kd.R_reads' HO293.out).2.2); (case side2 => exact (Kd.R_reads' HO293.out).2.1); (case side3 => exact cu (Kd.R_reads' HO297.out).2.2); (case side4 => exact (Kd.R_reads' HO297.out).2.1); rintro e w' ⟨rfl, ⟨nd, rfl⟩⟩))
       go_meet
       case rel => exact ⟨_, (!t291), (by first | rfl | (simp; done) | (simp [*]; done)), H', ⟨by have := HJ2.out; first | omega | exact Nat.le_refl _⟩, ⟨by (with_reducible repeat (first | apply Kd.R_alloc | apply Kd.R_drewN | apply Kd.R_drew)); exact Kd.R_mono HO287.out (fun _ hk => ⟨hk.1.2, hk.2⟩)⟩, ⟨by (with_reducible repeat (first | apply Kd.Q_alloc | apply Kd.Q_drewN | apply Kd.Q_drew)); exact HO289.out⟩, ⟨by (with_reducible repeat (first | apply Kd.R_alloc | apply Kd.R_drewN | apply Kd.R_drew)); exact Kd.R_mono HO293.out (fun _ hk => ⟨hk.1.2, hk.2⟩)⟩, ⟨by (with_reducible repeat (first | apply Kd.R_alloc | apply Kd.R_drewN | apply Kd.R_drew)); exact Kd.R_mono HO297.out (fun _ hk => ⟨hk.1.2, hk.2⟩)⟩, ⟨bu HB.out⟩⟩
      ·replace c17 := Bool.eq_false_iff.mpr c17
       subst c17
       have H1 : (laws_FnStemFill.j1 kj2 l1 t284 t285 t290 t291 t294 t295 true) = some r := by rw [if_neg (show ¬ (false = true) by decide)] at H; exact H
       clear H
       have H := H1
       clear H1
       have H' := am H
       clear H
       obtain ⟨Ao20, co20, eo20⟩ := Kd.R_slice HO293.out
       subst eo20
       obtain ⟨Ao21, co21, eo21⟩ := Kd.R_slice HO297.out
       subst eo21
       go_wp2_with (first | (go_at_call 7; (with_reducible refine (laws_sameTexts.calls kj2 _ _ t290 _ _ t294 false _ ?side1 ?side2 ?side3 ?side4 A16.out).mono ?_); (case side1 => exact cu (Kd.R_reads' HO293.out).2.2); (case side2 => exact (Kd.R_reads' HO293.out).2.1); (case side3 => exact cu (Kd.R_reads' HO297.out).2.2); (case side4 => exact (Kd.R_reads' HO297.out).2.1); rintro e w' ⟨rfl, ⟨nd, rfl⟩⟩))
       go_meet
       case rel => exact ⟨_, (true), (by first | rfl | (simp; done) | (simp [*]; done)), H', ⟨by have := HJ2.out; first | omega | exact Nat.le_refl _⟩, ⟨by (with_reducible repeat (first | apply Kd.R_alloc | apply Kd.R_drewN | apply Kd.R_drew)); exact Kd.R_mono HO287.out (fun _ hk => ⟨hk.1.2, hk.2⟩)⟩, ⟨by (with_reducible repeat (first | apply Kd.Q_alloc | apply Kd.Q_drewN | apply Kd.Q_drew)); exact HO289.out⟩, ⟨by (with_reducible repeat (first | apply Kd.R_alloc | apply Kd.R_drewN | apply Kd.R_drew)); exact Kd.R_mono HO293.out (fun _ hk => ⟨hk.1.2, hk.2⟩)⟩, ⟨by (with_reducible repeat (first | apply Kd.R_alloc | apply Kd.R_drewN | apply Kd.R_drew)); exact Kd.R_mono HO297.out (fun _ hk => ⟨hk.1.2, hk.2⟩)⟩, ⟨bu HB.out⟩⟩
    case rest =>
     clear HC9
     try clear c1
     try clear p2
     try clear c3
     try clear c4
     try clear c4b0
     try clear c4b1
     try clear c5
     try clear c6
     try clear c15
     try clear c15b0
     try clear c15b1
     try clear c15b2
     try clear c17
     try clear p2
     obtain ⟨kq, x53_8, rfl, HA, HJ8, HO_5, HO_6, HO_7, HO_9, HB⟩ := hcut
     cases kq with
     | zero => exact absurd HA.out (by simp [laws_FnStemFill.j1])
     | succ kj8 =>
      have H := HA.out
      clear HA
      simp only [laws_FnStemFill.j1] at H
      by_cases c22 : x53_8 = true
      ·subst c22
       have H1 : (if (t291 == t295) = true then ((laws_sameTexts.f kj8 t290 t294).bind fun t299 => (some t299)) else (some false)) = some r := by rw [if_pos rfl] at H; exact H
       clear H
       have H := H1
       clear H1
       by_cases c23 : (t291 == t295) = true
       ·rw [if_pos c23] at H
        have c23b0 : (t291 == t295) = true := c23
        (try (have c23b1 : decide (t291 = t295) = true := by simpa using c23))
        (try (have c23b2 : (t291 == t295) = true := by simpa using c23))
        clear c23
        replace H := Option.bind_eq_some_iff.mp H
        obtain ⟨t299, A240, H⟩ := H
        replace H : (some t299) = some r := H
        have A24 := am A240
        clear A240
        obtain rfl := Option.some.inj H
        obtain ⟨Ao25, co25, eo25⟩ := Kd.R_slice HO_7.out
        subst eo25
        obtain ⟨Ao26, co26, eo26⟩ := Kd.R_slice HO_9.out
        subst eo26
        go_wp2_with (first | (go_at_call 7; (with_reducible refine (laws_sameTexts.calls kj8 _ _ t290 _ _ t294 t299 _ ?side1 ?side2 ?side3 ?side4 A24.out).mono ?_); (case side1 => exact cu (Kd.R_reads' HO_7.out).2.2); (case side2 => exact (Kd.R_reads' HO_7.out).2.1); (case side3 => exact cu (Kd.R_reads' HO_9.out).2.2); (case side4 => exact (Kd.R_reads' HO_9.out).2.1); rintro e w' ⟨rfl, ⟨nd, rfl⟩⟩))
        go_ret
        exact ⟨by first | rfl | (simp [errW_none, errW_some] <;> rfl) | (simp [*, errW_none, errW_some] <;> rfl), bu HB.out⟩
       ·rw [if_neg c23] at H
        have c23b0 : (t291 == t295) = false := by simpa using c23
        (try (have c23b1 : decide (t291 = t295) = false := by simpa using c23))
        (try (have c23b2 : (t291 == t295) = false := by simpa using c23))
        (try (have c23b3 : ¬ (t291 = t295) := by simpa using c23))
        clear c23
        obtain rfl := Option.some.inj H
        go_wp2
        go_ret
        exact ⟨by first | rfl | (simp [errW_none, errW_some] <;> rfl) | (simp [*, errW_none, errW_some] <;> rfl), bu HB.out⟩
      ·replace c22 := Bool.eq_false_iff.mpr c22
       subst c22
       have H1 : ((impl_StemChanges.f kj8 t290 t285).bind fun t300 => ((impl_StemFewest.f kj8 t284 t285).bind fun t301 => (if t300 = t301 then (laws_FnStemFill.l0 kj8 l1 t284 t285 t290 t300 0) else (some false)))) = some r := by rw [if_neg (show ¬ (false = true) by decide)] at H; exact H
       clear H
       have H := H1
       clear H1
       replace H := Option.bind_eq_some_iff.mp H
       obtain ⟨t300, A270, H⟩ := H
       replace H : ((impl_StemFewest.f kj8 t284 t285).bind fun t301 => (if t300 = t301 then (laws_FnStemFill.l0 kj8 l1 t284 t285 t290 t300 0) else (some false))) = some r := H
       have A27 := am A270
       clear A270
       replace H := Option.bind_eq_some_iff.mp H
       obtain ⟨t301, A280, H⟩ := H
       replace H : (if t300 = t301 then (laws_FnStemFill.l0 kj8 l1 t284 t285 t290 t300 0) else (some false)) = some r := H
       have A28 := am A280
       clear A280
       by_cases c29 : t300 = t301
       ·rw [if_pos c29] at H
        have c29b0 : (t300 == t301) = true := beq_iff_eq.mpr c29
        have c29b1 : (t300 != t301) = false := bne_eq_false_iff_eq.mpr c29
        clear c29
        have H' := am H
        clear H
        obtain ⟨Ao30, co30, eo30⟩ := Kd.R_slice HO_7.out
        subst eo30
        go_wp2_with (first | ((with_reducible refine gate_callee (f := 8) rfl ?_); refine goesL_ (some 64) rfl rfl Tryd.func8 (by kernel_rfl) rfl #[.slice Ao30 t290.length co30, .slice Ao12 t285.length co12] rfl (by (try simp only [List.map_toArray, List.map_cons, List.map_nil]); first | done | rfl | (simp only [List.length_drop, List.length_take]; rfl)) ?_; (with_reducible refine (impl_StemChanges.calls kj8 _ _ t290 _ _ t285 t300 _ ?side1 ?side2 ?side3 ?side4 A27.out).mono ?_); (case side1 => exact cu (Kd.R_reads' HO_7.out).2.2); (case side2 => exact (Kd.R_reads' HO_7.out).2.1); (case side3 => repeat (first | exact (Kd.Q_reads' HO_6.out).2.2 | (with_reducible refine Kd.C_alloc ?_ _) | (with_reducible refine Kd.C_drewN ?_ _) | (with_reducible refine Kd.C_drew ?_))); (case side4 => exact (Kd.Q_reads' HO_6.out).2.1); rintro e w31 ⟨rfl, hb⟩; refine ⟨_, rfl, ?_⟩; have n0_ := am (Kd.R_below (ru HO_5.out) hb); have n1_ := am (Kd.Q_below (by (with_reducible repeat (first | apply Kd.Q_alloc | apply Kd.Q_drewN | apply Kd.Q_drew)); exact HO_6.out) hb); have n2_ := am (Kd.R_below (ru HO_7.out) hb); have n3_ := am (Kd.R_below (ru HO_9.out) hb); have n4_ := am (below_step (bu HB.out) hb); clear HO_5; clear HO_6; clear HO_7; clear HO_9; clear HB; have HO_5 := n0_; have HO_6 := n1_; have HO_7 := n2_; have HO_9 := n3_; have HB := n4_; clear n0_ n1_ n2_ n3_ n4_; (try clear hb); (try clear hb2); (try clear hk); (try clear hi)) | ((with_reducible refine gate_callee (f := 9) rfl ?_); refine goesL_ (some 68) rfl rfl Tryd.func9 (by kernel_rfl) rfl #[.slice Ao11 t284.length co11, .slice Ao12 t285.length co12] rfl (by (try simp only [List.map_toArray, List.map_cons, List.map_nil]); first | done | rfl | (simp only [List.length_drop, List.length_take]; rfl)) ?_; (with_reducible refine (impl_StemFewest.calls kj8 _ _ t284 _ _ t285 t301 _ ?side1 ?side2 ?side3 ?side4 A28.out).mono ?_); (case side1 => exact cu (Kd.R_reads' HO_5.out).2.2); (case side2 => exact (Kd.R_reads' HO_5.out).2.1); (case side3 => repeat (first | exact (Kd.Q_reads' HO_6.out).2.2 | (with_reducible refine Kd.C_alloc ?_ _) | (with_reducible refine Kd.C_drewN ?_ _) | (with_reducible refine Kd.C_drew ?_))); (case side4 => exact (Kd.Q_reads' HO_6.out).2.1); rintro e w32 ⟨rfl, hb⟩; refine ⟨_, rfl, ?_⟩; have n0_ := am (Kd.R_below (ru HO_5.out) hb); have n1_ := am (Kd.Q_below (by (with_reducible repeat (first | apply Kd.Q_alloc | apply Kd.Q_drewN | apply Kd.Q_drew)); exact HO_6.out) hb); have n2_ := am (Kd.R_below (ru HO_7.out) hb); have n3_ := am (Kd.R_below (ru HO_9.out) hb); have n4_ := am (below_step (bu HB.out) hb); clear HO_5; clear HO_6; clear HO_7; clear HO_9; clear HB; have HO_5 := n0_; have HO_6 := n1_; have HO_7 := n2_; have HO_9 := n3_; have HB := n4_; clear n0_ n1_ n2_ n3_ n4_; (try clear hb); (try clear hb2); (try clear hk); (try clear hi)))
        go_loopg [12] kj8 (fun kq v12 w' => ∃ (x5_3 : List ByteArray) (x7_3 : List ByteArray) (x12_3 : Int), v12 = .int .i64 x12_3 ∧ Aside0 (laws_FnStemFill.l0 kq l1 x5_3 t285 x7_3 t300 x12_3 = some r) ∧ Aside0 (kq ≤ kj8) ∧ Aside0 (Kd.R Kd.string 9 w' w.heap.size (fun k_ => some k_ ≠ ((.slice Ao30 t290.length co30) : Value).ownBlock) (.slice Ao11 t284.length co11) x5_3) ∧ Aside0 (Kd.Q (Kd.int .i64) 3 w' w.heap.size (fun _ => True) (.slice Ao12 t285.length co12) t285) ∧ Aside0 (Kd.R Kd.string 9 w' w.heap.size (fun k_ => some k_ ≠ ((.slice Ao11 t284.length co11) : Value).ownBlock) (.slice Ao30 t290.length co30) x7_3) ∧ Aside0 (Below w.heap.size w w'))
        case atStart => exact ⟨(t284), (t290), (0), (by first | rfl | (simp; done) | (simp [*]; done)), H', ⟨Nat.le_refl _⟩, ⟨by (with_reducible repeat (first | apply Kd.R_alloc | apply Kd.R_drewN | apply Kd.R_drew)); exact Kd.R_mono HO_5.out (fun _ hk => hk.1)⟩, ⟨by (with_reducible repeat (first | apply Kd.Q_alloc | apply Kd.Q_drewN | apply Kd.Q_drew)); exact HO_6.out⟩, ⟨by (with_reducible repeat (first | apply Kd.R_alloc | apply Kd.R_drewN | apply Kd.R_drew)); exact Kd.R_mono HO_7.out (fun _ hk => hk.1)⟩, ⟨bu HB.out⟩⟩
        case round =>
         clear H'
         try clear c1
         try clear c2
         try clear p2
         try clear c3
         try clear c4
         try clear c4b0
         try clear c4b1
         try clear c5
         try clear c6
         try clear c8
         try clear c9
         try clear c15
         try clear c15b0
         try clear c15b1
         try clear c15b2
         try clear c17
         try clear c22
         try clear c23
         try clear c23b0
         try clear c23b1
         try clear c23b2
         try clear c29
         try clear c29b0
         try clear c29b1
         try clear p2
         obtain ⟨x5_3, x7_3, x12_3, rfl, HA, HK3, HO_5, HO_6, HO_7, HB⟩ := hrel
         have hl5_3 := (Kd.R_reads' HO_5.out).1
         rw [hl5_3] at HO_5
         (try simp only [hl5_3])
         (try simp only [hl5_3] at HO_6)
         (try simp only [hl5_3] at HO_7)
         have hl7_3 := (Kd.R_reads' HO_7.out).1
         rw [hl7_3] at HO_7
         (try simp only [hl7_3])
         (try simp only [hl7_3] at HO_5)
         (try simp only [hl7_3] at HO_6)
         cases gk with
         | zero => exact absurd HA.out (by simp [laws_FnStemFill.l0])
         | succ k3 =>
          have H := HA.out
          clear HA
          simp only [laws_FnStemFill.l0] at H
          by_cases c33 : x12_3 < (x5_3.length : Int)
          ·rw [if_pos c33] at H
           have c33b0 : decide (x12_3 < (x5_3.length : Int)) = true := decide_eq_true c33
           clear c33
           have HC34 := am H
           clear H
           go_upto_region 14 with (fail)
           go_cut [92] (fun v92 wc => ∃ (kq : Nat) (x92_33 : Bool), v92 = .bool x92_33 ∧ Aside0 (laws_FnStemFill.j3 kq l1 x5_3 t285 x7_3 t300 x12_3 x92_33 = some r) ∧ Aside0 (kq ≤ k3) ∧ Aside0 (Kd.R Kd.string 9 wc w.heap.size (fun k_ => some k_ ≠ ((.slice Ao30 x7_3.length co30) : Value).ownBlock) (.slice Ao11 x5_3.length co11) x5_3) ∧ Aside0 (Kd.Q (Kd.int .i64) 3 wc w.heap.size (fun _ => True) (.slice Ao12 t285.length co12) t285) ∧ Aside0 (Kd.R Kd.string 9 wc w.heap.size (fun k_ => some k_ ≠ ((.slice Ao11 x5_3.length co11) : Value).ownBlock) (.slice Ao30 x7_3.length co30) x7_3) ∧ Aside0 (Below w.heap.size w wc))
           case first =>
            have H := HC34.out
            clear HC34
            by_cases c35 : 0 ≤ x12_3
            ·rw [if_pos c35] at H
             have c35b0 : decide (0 ≤ x12_3) = true := decide_eq_true c35
             clear c35
             (first | rw [c35b0] | (simp only [i64_w, i32_w]; rw [c35b0]) | skip)
             replace H := Option.bind_eq_some_iff.mp H
             obtain ⟨t303, A360, H⟩ := H
             replace H : (if t303 = true then (laws_FnStemFill.j3 k3 l1 x5_3 t285 x7_3 t300 x12_3 false) else (if x12_3 < (x7_3.length : Int) then (laws_FnStemFill.j3 k3 l1 x5_3 t285 x7_3 t300 x12_3 ((rdOf ByteArray.empty x7_3 x12_3).toList != (rdOf ByteArray.empty x5_3 x12_3).toList)) else (none))) = some r := H
             have A36 := am A360
             clear A360
             by_cases c37 : t303 = true
             ·subst c37
              have H1 : (laws_FnStemFill.j3 k3 l1 x5_3 t285 x7_3 t300 x12_3 false) = some r := by rw [if_pos rfl] at H; exact H
              clear H
              have H := H1
              clear H1
              have H' := am H
              clear H
              try go_wp2
              have n0_ := am (Kd.R_drew HO_5.out)
              have n1_ := am (Kd.Q_drew HO_6.out)
              have n2_ := am (Kd.R_drew HO_7.out)
              have n3_ := am (below_drew1 HB.out)
              clear HO_5
              clear HO_6
              clear HO_7
              clear HB
              have HO_5 := n0_
              have HO_6 := n1_
              have HO_7 := n2_
              have HB := n3_
              clear n0_ n1_ n2_ n3_
              have p302 : 0 ≤ (x12_3 : Int) := od
              have q302 : x12_3 < (x5_3.length : Int) := od
              obtain ⟨ad302, e302, hx302_0⟩ := Kd.at_string (Kd.R_reads' HO_5.out).2.2 x12_3 p302 q302
              cases e302
              replace p302 := eq_true p302
              replace q302 := eq_true q302
              refine start_ (n := 17) (S := fun w' => w'.cell? (ad302.add (x12_3).toNat) = some (.string (rdOf ByteArray.empty x5_3 x12_3))) (ds := []) #[F,F,F,F,F,F,F,F,F,F,F,F,F,F,F,F,F] (by kernel_rfl) rfl rfl (hx302_0) (fun hHeld => ?_); refine with_tabW laws_FnStemFill.tab14 laws_FnStemFill.bits14 (fun HT_ HW_ => ?_)
              generalize wr.drew = w38 at HO_5 HO_6 HO_7 HB hx302_0 hHeld ⊢
              refine pz 0 (some 76) #[T,F,F,F,F,F,F,F,F,F,F,F,F,F,F,F,F] (any_of HT_.out (by kernel_rfl)) (h := ?_)
              refine pz 1 (some 77) #[T,T,F,F,F,F,F,F,F,F,F,F,F,F,F,F,F] (any_of HT_.out (by kernel_rfl)) (h := ?_)
              refine pz 2 (some 78) #[T,T,T,F,F,F,F,F,F,F,F,F,F,F,F,F,F] (any_of HT_.out (by kernel_rfl)) (h := ?_)
              refine take_ (i := 3) (N := some 79) (v := ?_) (a' := ?_) #[T,T,T,T,F,F,F,F,F,F,F,F,F,F,F,F,F] rfl rfl (take_ofW HT_.out HW_.out (by kernel_rfl)) (fun _ _ _ h => h) (Or.inl ⟨by rfl, ?_⟩) hHeld ?_ ?_
              rotate_left
              ·intro w' s0
               go_simp
               with_reducible rfl
              rotate_left
              ·simp only [Act.put, sA, sZ, sS, i64_w, i32_w]
               rfl
              refine one_ (i := 4) (N := some 80) #[T,T,T,T,T,F,F,F,F,F,F,F,F,F,F,F,F] rfl rfl (one_of HT_.out (by kernel_rfl)) (by decide) (fun K hK => ?_)
              refine goes_ Tryd.func10 (by kernel_rfl) rfl #[.string (rdOf ByteArray.empty x5_3 x12_3)] (by rfl) rfl rfl (by (try simp only [List.map_toArray, List.map_cons, List.map_nil]); first | done | rfl | (simp only [List.length_drop, List.length_take]; rfl)) ?_
              with_reducible refine (laws_lost.calls (rdOf ByteArray.empty x5_3 x12_3) true _ A36.out).mono ?_
              rintro e w' ⟨rfl, ⟨nd, rfl⟩⟩
              refine ⟨_, rfl, ?_⟩
              refine hK.out _ _ (hHeld) (fun hHeld => ?_)
              clear hK K
              refine norm_ (a' := ?_) ?_ ?_
              rotate_left
              ·show Act.put _ (some 80) _ = _
               simp only [Act.put, sA, sZ, sS, i64_w, i32_w]
               rfl
              refine pz 5 (some 81) #[T,T,T,T,T,T,F,F,F,F,F,F,F,F,F,F,F] (any_of HT_.out (by kernel_rfl)) (h := ?_)
              refine pz 6 (some 82) #[T,T,T,T,T,T,T,F,F,F,F,F,F,F,F,F,F] (any_of HT_.out (by kernel_rfl)) (h := ?_)
              refine pv 7 (some 83) #[T,T,T,T,T,T,T,T,F,F,F,F,F,F,F,F,F] (any_of HT_.out (by kernel_rfl)) (h := ?_)
              refine pv 8 (some 84) #[T,T,T,T,T,T,T,T,T,F,F,F,F,F,F,F,F] (any_of HT_.out (by kernel_rfl)) (h := ?_)
              refine pv 9 (some 85) #[T,T,T,T,T,T,T,T,T,T,F,F,F,F,F,F,F] (any_of HT_.out (by kernel_rfl)) (h := ?_)
              refine pv 10 (some 86) #[T,T,T,T,T,T,T,T,T,T,T,F,F,F,F,F,F] (any_of HT_.out (by kernel_rfl)) (h := ?_)
              refine pv 11 (some 87) #[T,T,T,T,T,T,T,T,T,T,T,T,F,F,F,F,F] (any_of HT_.out (by kernel_rfl)) (h := ?_)
              refine pv 12 (some 88) #[T,T,T,T,T,T,T,T,T,T,T,T,T,F,F,F,F] (any_of HT_.out (by kernel_rfl)) (h := ?_)
              refine pv 13 (some 89) #[T,T,T,T,T,T,T,T,T,T,T,T,T,T,F,F,F] (any_of HT_.out (by kernel_rfl)) (h := ?_)
              refine pv 14 (some 90) #[T,T,T,T,T,T,T,T,T,T,T,T,T,T,T,F,F] (any_of HT_.out (by kernel_rfl)) (h := ?_)
              refine pv 15 (some 91) #[T,T,T,T,T,T,T,T,T,T,T,T,T,T,T,T,F] (any_of HT_.out (by kernel_rfl)) (h := ?_)
              refine pz 16 (some 92) #[T,T,T,T,T,T,T,T,T,T,T,T,T,T,T,T,T] (any_of HT_.out (by kernel_rfl)) (h := ?_)
              refine done_ (done_of HT_.out (by kernel_rfl)) ?_
              try go_wp2
              go_meet
              case rel => exact ⟨_, (false), (by first | rfl | (simp; done) | (simp [*]; done)), H', ⟨by have := HJ2.out; have := HJ8.out; have := HK3.out; first | omega | exact Nat.le_refl _⟩, ⟨by (try simp only [hl5_3]); (try simp only [hl7_3]); (with_reducible repeat (first | apply Kd.R_alloc | apply Kd.R_drewN | apply Kd.R_drew)); exact HO_5.out⟩, ⟨by (try simp only [hl5_3]); (try simp only [hl7_3]); (with_reducible repeat (first | apply Kd.Q_alloc | apply Kd.Q_drewN | apply Kd.Q_drew)); exact HO_6.out⟩, ⟨by (try simp only [hl5_3]); (try simp only [hl7_3]); (with_reducible repeat (first | apply Kd.R_alloc | apply Kd.R_drewN | apply Kd.R_drew)); exact HO_7.out⟩, ⟨bu HB.out⟩⟩
             ·replace c37 := Bool.eq_false_iff.mpr c37
              subst c37
              have H1 : (if x12_3 < (x7_3.length : Int) then (laws_FnStemFill.j3 k3 l1 x5_3 t285 x7_3 t300 x12_3 ((rdOf ByteArray.empty x7_3 x12_3).toList != (rdOf ByteArray.empty x5_3 x12_3).toList)) else (none)) = some r := by rw [if_neg (show ¬ (false = true) by decide)] at H; exact H
              clear H
              have H := H1
              clear H1
              by_cases c39 : x12_3 < (x7_3.length : Int)
              ·rw [if_pos c39] at H
               have c39b0 : decide (x12_3 < (x7_3.length : Int)) = true := decide_eq_true c39
               clear c39
               have H' := am H
               clear H
               try go_wp2
               have n0_ := am (Kd.R_drew HO_5.out)
               have n1_ := am (Kd.Q_drew HO_6.out)
               have n2_ := am (Kd.R_drew HO_7.out)
               have n3_ := am (below_drew1 HB.out)
               clear HO_5
               clear HO_6
               clear HO_7
               clear HB
               have HO_5 := n0_
               have HO_6 := n1_
               have HO_7 := n2_
               have HB := n3_
               clear n0_ n1_ n2_ n3_
               have p302 : 0 ≤ (x12_3 : Int) := od
               have q302 : x12_3 < (x5_3.length : Int) := od
               obtain ⟨ad302, e302, hx302_0⟩ := Kd.at_string (Kd.R_reads' HO_5.out).2.2 x12_3 p302 q302
               cases e302
               replace p302 := eq_true p302
               replace q302 := eq_true q302
               have p304 : 0 ≤ (x12_3 : Int) := od
               have q304 : x12_3 < (x7_3.length : Int) := od
               obtain ⟨ad304, e304, hx304_0⟩ := Kd.at_string (Kd.R_reads' HO_7.out).2.2 x12_3 p304 q304
               cases e304
               replace p304 := eq_true p304
               replace q304 := eq_true q304
               have p305 : 0 ≤ (x12_3 : Int) := od
               have q305 : x12_3 < (x5_3.length : Int) := od
               obtain ⟨ad305, e305, hx305_0⟩ := Kd.at_string (Kd.R_reads' HO_5.out).2.2 x12_3 p305 q305
               obtain rfl : ad302 = ad305 := (by injection e305)
               replace p305 := eq_true p305
               replace q305 := eq_true q305
               refine start_ (n := 17) (S := fun w' => w'.cell? (ad302.add (x12_3).toNat) = some (.string (rdOf ByteArray.empty x5_3 x12_3)) ∧ w'.cell? (ad304.add (x12_3).toNat) = some (.string (rdOf ByteArray.empty x7_3 x12_3)) ∧ w'.cell? (ad302.add (x12_3).toNat) = some (.string (rdOf ByteArray.empty x5_3 x12_3))) (ds := []) #[F,F,F,F,F,F,F,F,F,F,F,F,F,F,F,F,F] (by kernel_rfl) rfl rfl ⟨hx302_0, hx304_0, hx305_0⟩ (fun hHeld => ?_); refine with_tabW laws_FnStemFill.tab14 laws_FnStemFill.bits14 (fun HT_ HW_ => ?_)
               generalize wr.drew = w40 at HO_5 HO_6 HO_7 HB hx302_0 hx304_0 hx305_0 hHeld ⊢
               refine pz 0 (some 76) #[T,F,F,F,F,F,F,F,F,F,F,F,F,F,F,F,F] (any_of HT_.out (by kernel_rfl)) (h := ?_)
               refine pz 1 (some 77) #[T,T,F,F,F,F,F,F,F,F,F,F,F,F,F,F,F] (any_of HT_.out (by kernel_rfl)) (h := ?_)
               refine pz 2 (some 78) #[T,T,T,F,F,F,F,F,F,F,F,F,F,F,F,F,F] (any_of HT_.out (by kernel_rfl)) (h := ?_)
               refine tz hHeld 3 (some 79) #[T,T,T,T,F,F,F,F,F,F,F,F,F,F,F,F,F] (take_ofW HT_.out HW_.out (by kernel_rfl)) (h := ?_)
               refine one_ (i := 4) (N := some 80) #[T,T,T,T,T,F,F,F,F,F,F,F,F,F,F,F,F] rfl rfl (one_of HT_.out (by kernel_rfl)) (by decide) (fun K hK => ?_)
               refine goes_ Tryd.func10 (by kernel_rfl) rfl #[.string (rdOf ByteArray.empty x5_3 x12_3)] (by rfl) rfl rfl (by (try simp only [List.map_toArray, List.map_cons, List.map_nil]); first | done | rfl | (simp only [List.length_drop, List.length_take]; rfl)) ?_
               with_reducible refine (laws_lost.calls (rdOf ByteArray.empty x5_3 x12_3) false _ A36.out).mono ?_
               rintro e w' ⟨rfl, ⟨nd, rfl⟩⟩
               refine ⟨_, rfl, ?_⟩
               refine hK.out _ _ ⟨hHeld.1, hHeld.2.1, hHeld.2.2⟩ (fun hHeld => ?_)
               clear hK K
               refine norm_ (a' := ?_) ?_ ?_
               rotate_left
               ·show Act.put _ (some 80) _ = _
                simp only [Act.put, sA, sZ, sS, i64_w, i32_w]
                rfl
               refine pz 5 (some 81) #[T,T,T,T,T,T,F,F,F,F,F,F,F,F,F,F,F] (any_of HT_.out (by kernel_rfl)) (h := ?_)
               refine pz 6 (some 82) #[T,T,T,T,T,T,T,F,F,F,F,F,F,F,F,F,F] (any_of HT_.out (by kernel_rfl)) (h := ?_)
               refine pz 7 (some 83) #[T,T,T,T,T,T,T,T,F,F,F,F,F,F,F,F,F] (any_of HT_.out (by kernel_rfl)) (h := ?_)
               refine pz 8 (some 84) #[T,T,T,T,T,T,T,T,T,F,F,F,F,F,F,F,F] (any_of HT_.out (by kernel_rfl)) (h := ?_)
               refine pz 9 (some 85) #[T,T,T,T,T,T,T,T,T,T,F,F,F,F,F,F,F] (any_of HT_.out (by kernel_rfl)) (h := ?_)
               refine pz 11 (some 87) #[T,T,T,T,T,T,T,T,T,T,F,T,F,F,F,F,F] (any_of HT_.out (by kernel_rfl)) (h := ?_)
               refine pz 12 (some 88) #[T,T,T,T,T,T,T,T,T,T,F,T,T,F,F,F,F] (any_of HT_.out (by kernel_rfl)) (h := ?_)
               refine pz 13 (some 89) #[T,T,T,T,T,T,T,T,T,T,F,T,T,T,F,F,F] (any_of HT_.out (by kernel_rfl)) (h := ?_)
               refine tz hHeld 10 (some 86) #[T,T,T,T,T,T,T,T,T,T,T,T,T,T,F,F,F] (take_ofW HT_.out HW_.out (by kernel_rfl)) (h := ?_)
               refine tz hHeld 14 (some 90) #[T,T,T,T,T,T,T,T,T,T,T,T,T,T,T,F,F] (take_ofW HT_.out HW_.out (by kernel_rfl)) (h := ?_)
               refine pz 15 (some 91) #[T,T,T,T,T,T,T,T,T,T,T,T,T,T,T,T,F] (any_of HT_.out (by kernel_rfl)) (h := ?_)
               refine pz 16 (some 92) #[T,T,T,T,T,T,T,T,T,T,T,T,T,T,T,T,T] (any_of HT_.out (by kernel_rfl)) (h := ?_)
               refine done_ (done_of HT_.out (by kernel_rfl)) ?_
               try go_wp2
               go_meet
               case rel => exact ⟨_, (((rdOf ByteArray.empty x7_3 x12_3).toList != (rdOf ByteArray.empty x5_3 x12_3).toList)), (by first | rfl | (simp; done) | (simp [*]; done)), H', ⟨by have := HJ2.out; have := HJ8.out; have := HK3.out; first | omega | exact Nat.le_refl _⟩, ⟨by (try simp only [hl5_3]); (try simp only [hl7_3]); (with_reducible repeat (first | apply Kd.R_alloc | apply Kd.R_drewN | apply Kd.R_drew)); exact HO_5.out⟩, ⟨by (try simp only [hl5_3]); (try simp only [hl7_3]); (with_reducible repeat (first | apply Kd.Q_alloc | apply Kd.Q_drewN | apply Kd.Q_drew)); exact HO_6.out⟩, ⟨by (try simp only [hl5_3]); (try simp only [hl7_3]); (with_reducible repeat (first | apply Kd.R_alloc | apply Kd.R_drewN | apply Kd.R_drew)); exact HO_7.out⟩, ⟨bu HB.out⟩⟩
              ·rw [if_neg c39] at H
               exact absurd H (by simp)
            ·rw [if_neg c35] at H
             exact absurd H (by simp)
           case rest =>
            clear HC34
            try clear c1
            try clear c2
            try clear p2
            try clear c3
            try clear p3
            try clear q3
            try clear hx3
            try clear c4
            try clear c4b0
            try clear c4b1
            try clear c5
            try clear c6
            try clear c8
            try clear c9
            try clear c10
            try clear c15
            try clear c15b0
            try clear c15b1
            try clear c15b2
            try clear c17
            try clear c22
            try clear c23
            try clear c23b0
            try clear c23b1
            try clear c23b2
            try clear c29
            try clear c29b0
            try clear c29b1
            try clear p30
            try clear q30
            try clear hx30
            try clear c33
            try clear c33b0
            try clear c35
            try clear c35b0
            try clear c37
            try clear c39
            try clear c39b0
            try clear hx302_0
            try clear hx304_0
            try clear hx305_0
            try clear p2
            try clear p302
            try clear p304
            try clear p305
            try clear q302
            try clear q304
            try clear q305
            obtain ⟨kq, x92_33, rfl, HA, HJ33, HO_5, HO_6, HO_7, HB⟩ := hcut
            cases kq with
            | zero => exact absurd HA.out (by simp [laws_FnStemFill.j3])
            | succ kj33 =>
             have H := HA.out
             clear HA
             simp only [laws_FnStemFill.j3] at H
             by_cases c41 : x92_33 = true
             ·subst c41
              have H1 : (some false) = some r := by rw [if_pos rfl] at H; exact H
              clear H
              have H := H1
              clear H1
              obtain rfl := Option.some.inj H
              go_wp2
              go_ret
              exact ⟨by first | rfl | (simp [errW_none, errW_some] <;> rfl) | (simp [*, errW_none, errW_some] <;> rfl), bu HB.out⟩
             ·replace c41 := Bool.eq_false_iff.mpr c41
              subst c41
              have H1 : (laws_FnStemFill.l1 kj33 l1 x5_3 t285 x7_3 t300 x12_3 0) = some r := by rw [if_neg (show ¬ (false = true) by decide)] at H; exact H
              clear H
              have H := H1
              clear H1
              have H' := am H
              clear H
              go_wp2
              go_loopg [13] kj33 (fun kq v13 w' => ∃ (x5_5 : List ByteArray) (x7_5 : List ByteArray) (x13_5 : Int), v13 = .int .i64 x13_5 ∧ Aside0 (laws_FnStemFill.l1 kq l1 x5_5 t285 x7_5 t300 x12_3 x13_5 = some r) ∧ Aside0 (kq ≤ kj33) ∧ Aside0 (Kd.R Kd.string 9 w' w.heap.size (fun k_ => some k_ ≠ ((.slice Ao30 x7_3.length co30) : Value).ownBlock) (.slice Ao11 x5_3.length co11) x5_5) ∧ Aside0 (Kd.Q (Kd.int .i64) 3 w' w.heap.size (fun _ => True) (.slice Ao12 t285.length co12) t285) ∧ Aside0 (Kd.R Kd.string 9 w' w.heap.size (fun k_ => some k_ ≠ ((.slice Ao11 x5_3.length co11) : Value).ownBlock) (.slice Ao30 x7_3.length co30) x7_5) ∧ Aside0 (Below w.heap.size w w'))
              case atStart => exact ⟨(x5_3), (x7_3), (0), (by first | rfl | (simp; done) | (simp [*]; done)), H', ⟨Nat.le_refl _⟩, ⟨by (try simp only [hl5_3]); (try simp only [hl7_3]); (with_reducible repeat (first | apply Kd.R_alloc | apply Kd.R_drewN | apply Kd.R_drew)); exact HO_5.out⟩, ⟨by (try simp only [hl5_3]); (try simp only [hl7_3]); (with_reducible repeat (first | apply Kd.Q_alloc | apply Kd.Q_drewN | apply Kd.Q_drew)); exact HO_6.out⟩, ⟨by (try simp only [hl5_3]); (try simp only [hl7_3]); (with_reducible repeat (first | apply Kd.R_alloc | apply Kd.R_drewN | apply Kd.R_drew)); exact HO_7.out⟩, ⟨bu HB.out⟩⟩
              case round =>
               clear H'
               try clear c1
               try clear c2
               try clear p2
               try clear c3
               try clear p3
               try clear q3
               try clear hx3
               try clear c4
               try clear c4b0
               try clear c4b1
               try clear c5
               try clear c6
               try clear c8
               try clear c9
               try clear c10
               try clear c15
               try clear c15b0
               try clear c15b1
               try clear c15b2
               try clear c17
               try clear c22
               try clear c23
               try clear c23b0
               try clear c23b1
               try clear c23b2
               try clear c29
               try clear c29b0
               try clear c29b1
               try clear p30
               try clear q30
               try clear hx30
               try clear c33
               try clear c33b0
               try clear c35
               try clear c35b0
               try clear c37
               try clear c39
               try clear c39b0
               try clear c41
               try clear hx302_0
               try clear hx304_0
               try clear hx305_0
               try clear p2
               try clear p3
               try clear p30
               try clear p302
               try clear p304
               try clear p305
               try clear q3
               try clear q30
               try clear q302
               try clear q304
               try clear q305
               obtain ⟨x5_5, x7_5, x13_5, rfl, HA, HK5, HO_5, HO_6, HO_7, HB⟩ := hrel
               have hl5_5 := (Kd.R_reads' HO_5.out).1
               rw [hl5_5] at HO_5
               (try simp only [hl5_5])
               (try simp only [hl5_5] at HO_6)
               (try simp only [hl5_5] at HO_7)
               have hl7_5 := (Kd.R_reads' HO_7.out).1
               rw [hl7_5] at HO_7
               (try simp only [hl7_5])
               (try simp only [hl7_5] at HO_5)
               (try simp only [hl7_5] at HO_6)
               cases gk with
               | zero => exact absurd HA.out (by simp [laws_FnStemFill.l1])
               | succ k5 =>
                have H := HA.out
                clear HA
                simp only [laws_FnStemFill.l1] at H
                have HC42 := am H
                clear H
                go_upto_region 17 with (fail)
                go_cut [101] (fun v101 wc => ∃ (kq : Nat) (x101_41 : Bool), v101 = .bool x101_41 ∧ Aside0 (laws_FnStemFill.j5 kq l1 x5_5 t285 x7_5 t300 x12_3 x13_5 x101_41 = some r) ∧ Aside0 (kq ≤ k5) ∧ Aside0 (Kd.R Kd.string 9 wc w.heap.size (fun k_ => some k_ ≠ ((.slice Ao30 x7_5.length co30) : Value).ownBlock) (.slice Ao11 x5_5.length co11) x5_5) ∧ Aside0 (Kd.Q (Kd.int .i64) 3 wc w.heap.size (fun _ => True) (.slice Ao12 t285.length co12) t285) ∧ Aside0 (Kd.R Kd.string 9 wc w.heap.size (fun k_ => some k_ ≠ ((.slice Ao11 x5_5.length co11) : Value).ownBlock) (.slice Ao30 x7_5.length co30) x7_5) ∧ Aside0 (Below w.heap.size w wc))
                case first =>
                 have H := HC42.out
                 clear HC42
                 by_cases c43 : x13_5 < 4
                 ·rw [if_pos c43] at H
                  have c43b0 : decide (x13_5 < 4) = true := decide_eq_true c43
                  clear c43
                  (first | rw [c43b0] | (simp only [i64_w, i32_w]; rw [c43b0]) | skip)
                  by_cases c44 : 0 ≤ x12_3
                  ·rw [if_pos c44] at H
                   have c44b0 : decide (0 ≤ x12_3) = true := decide_eq_true c44
                   clear c44
                   by_cases c45 : x12_3 < (x5_5.length : Int)
                   ·rw [if_pos c45] at H
                    have c45b0 : decide (x12_3 < (x5_5.length : Int)) = true := decide_eq_true c45
                    clear c45
                    replace H := Option.bind_eq_some_iff.mp H
                    obtain ⟨t307, A460, H⟩ := H
                    replace H : (laws_FnStemFill.j5 k5 l1 x5_5 t285 x7_5 t300 x12_3 x13_5 t307) = some r := H
                    have A46 := am A460
                    clear A460
                    have H' := am H
                    clear H
                    have p306 : 0 ≤ (x12_3 : Int) := od
                    have q306 : x12_3 < (x5_5.length : Int) := od
                    obtain ⟨ad306, e306, hx306_0⟩ := Kd.at_string (Kd.R_reads' HO_5.out).2.2 x12_3 p306 q306
                    cases e306
                    replace p306 := eq_true p306
                    replace q306 := eq_true q306
                    go_wp2_with (first | (go_at_call 10; (with_reducible refine (laws_lost.calls (rdOf ByteArray.empty x5_5 x12_3) t307 _ A46.out).mono ?_); rintro e w' ⟨rfl, ⟨nd, rfl⟩⟩))
                    go_meet
                    case rel => exact ⟨_, (t307), (by first | rfl | (simp; done) | (simp [*]; done)), H', ⟨by have := HJ2.out; have := HJ8.out; have := HK3.out; have := HJ33.out; have := HK5.out; first | omega | exact Nat.le_refl _⟩, ⟨by (try simp only [hl5_3]); (try simp only [hl7_3]); (try simp only [hl5_5]); (try simp only [hl7_5]); (with_reducible repeat (first | apply Kd.R_alloc | apply Kd.R_drewN | apply Kd.R_drew)); exact HO_5.out⟩, ⟨by (try simp only [hl5_3]); (try simp only [hl7_3]); (try simp only [hl5_5]); (try simp only [hl7_5]); (with_reducible repeat (first | apply Kd.Q_alloc | apply Kd.Q_drewN | apply Kd.Q_drew)); exact HO_6.out⟩, ⟨by (try simp only [hl5_3]); (try simp only [hl7_3]); (try simp only [hl5_5]); (try simp only [hl7_5]); (with_reducible repeat (first | apply Kd.R_alloc | apply Kd.R_drewN | apply Kd.R_drew)); exact HO_7.out⟩, ⟨bu HB.out⟩⟩
                   ·rw [if_neg c45] at H
                    exact absurd H (by simp)
                  ·rw [if_neg c44] at H
                   exact absurd H (by simp)
                 ·rw [if_neg c43] at H
                  have c43b0 : decide (x13_5 < 4) = false := decide_eq_false c43
                  clear c43
                  (first | rw [c43b0] | (simp only [i64_w, i32_w]; rw [c43b0]) | skip)
                  have H' := am H
                  clear H
                  go_wp2
                  go_meet
                  case rel => exact ⟨_, (false), (by first | rfl | (simp; done) | (simp [*]; done)), H', ⟨by have := HJ2.out; have := HJ8.out; have := HK3.out; have := HJ33.out; have := HK5.out; first | omega | exact Nat.le_refl _⟩, ⟨by (try simp only [hl5_3]); (try simp only [hl7_3]); (try simp only [hl5_5]); (try simp only [hl7_5]); (with_reducible repeat (first | apply Kd.R_alloc | apply Kd.R_drewN | apply Kd.R_drew)); exact HO_5.out⟩, ⟨by (try simp only [hl5_3]); (try simp only [hl7_3]); (try simp only [hl5_5]); (try simp only [hl7_5]); (with_reducible repeat (first | apply Kd.Q_alloc | apply Kd.Q_drewN | apply Kd.Q_drew)); exact HO_6.out⟩, ⟨by (try simp only [hl5_3]); (try simp only [hl7_3]); (try simp only [hl5_5]); (try simp only [hl7_5]); (with_reducible repeat (first | apply Kd.R_alloc | apply Kd.R_drewN | apply Kd.R_drew)); exact HO_7.out⟩, ⟨bu HB.out⟩⟩
                case rest =>
                 clear HC42
                 try clear c1
                 try clear c2
                 try clear p2
                 try clear c3
                 try clear p3
                 try clear q3
                 try clear hx3
                 try clear c4
                 try clear c4b0
                 try clear c4b1
                 try clear c5
                 try clear c6
                 try clear c8
                 try clear c9
                 try clear c10
                 try clear c15
                 try clear c15b0
                 try clear c15b1
                 try clear c15b2
                 try clear c17
                 try clear c22
                 try clear c23
                 try clear c23b0
                 try clear c23b1
                 try clear c23b2
                 try clear c29
                 try clear c29b0
                 try clear c29b1
                 try clear p30
                 try clear q30
                 try clear hx30
                 try clear c33
                 try clear c33b0
                 try clear c35
                 try clear c35b0
                 try clear c37
                 try clear c39
                 try clear c39b0
                 try clear c41
                 try clear c43
                 try clear c43b0
                 try clear c44
                 try clear c44b0
                 try clear c45
                 try clear c45b0
                 try clear hx302_0
                 try clear hx304_0
                 try clear hx305_0
                 try clear hx306_0
                 try clear p2
                 try clear p3
                 try clear p30
                 try clear p302
                 try clear p304
                 try clear p305
                 try clear p306
                 try clear q3
                 try clear q30
                 try clear q302
                 try clear q304
                 try clear q305
                 try clear q306
                 obtain ⟨kq, x101_41, rfl, HA, HJ41, HO_5, HO_6, HO_7, HB⟩ := hcut
                 cases kq with
                 | zero => exact absurd HA.out (by simp [laws_FnStemFill.j5])
                 | succ kj41 =>
                  have H := HA.out
                  clear HA
                  simp only [laws_FnStemFill.j5] at H
                  by_cases c47 : x101_41 = true
                  ·subst c47
                   have H1 : (if 0 ≤ x12_3 then (if x12_3 < (x7_5.length : Int) then (if ((rdOf ByteArray.empty x7_5 x12_3).size : Int) = 0 then (none) else ((some (([] : List ByteArray) : List ByteArray)).bind fun y309 => (if y309.length + x7_5.length < 8796093022208 then ((some (y309 ++ x7_5 : List ByteArray)).bind fun y312 => (if 0 ≤ ((l1.length : Int) % ((rdOf ByteArray.empty x7_5 x12_3).size : Int)) then (if ((l1.length : Int) % ((rdOf ByteArray.empty x7_5 x12_3).size : Int)) ≤ ((rdOf ByteArray.empty x7_5 x12_3).size : Int) then (if 0 ≤ x13_5 then (if x13_5 ≤ (wrap64 (x13_5 + 1)) then (if (wrap64 (x13_5 + 1)) ≤ 4 then (if ((rdOf ByteArray.empty x7_5 x12_3).extract 0 (((l1.length : Int) % ((rdOf ByteArray.empty x7_5 x12_3).size : Int)) : Int).toNat).size + ((⟨#[97, 98, 99, 100]⟩ : ByteArray).extract (x13_5 : Int).toNat ((wrap64 (x13_5 + 1)) : Int).toNat).size ≤ 9223372036854775807 then (if 0 ≤ (wrap64 (((l1.length : Int) % ((rdOf ByteArray.empty x7_5 x12_3).size : Int)) + 1)) then (if (wrap64 (((l1.length : Int) % ((rdOf ByteArray.empty x7_5 x12_3).size : Int)) + 1)) ≤ ((rdOf ByteArray.empty x7_5 x12_3).size : Int) then (if (((rdOf ByteArray.empty x7_5 x12_3).extract 0 (((l1.length : Int) % ((rdOf ByteArray.empty x7_5 x12_3).size : Int)) : Int).toNat) ++ ((⟨#[97, 98, 99, 100]⟩ : ByteArray).extract (x13_5 : Int).toNat ((wrap64 (x13_5 + 1)) : Int).toNat)).size + ((rdOf ByteArray.empty x7_5 x12_3).extract ((wrap64 (((l1.length : Int) % ((rdOf ByteArray.empty x7_5 x12_3).size : Int)) + 1)) : Int).toNat (rdOf ByteArray.empty x7_5 x12_3).size).size ≤ 9223372036854775807 then (if x12_3 < (y312.length : Int) then ((impl_StemChanges.f kj41 (y312.set (x12_3 : Int).toNat ((((rdOf ByteArray.empty x7_5 x12_3).extract 0 (((l1.length : Int) % ((rdOf ByteArray.empty x7_5 x12_3).size : Int)) : Int).toNat) ++ ((⟨#[97, 98, 99, 100]⟩ : ByteArray).extract (x13_5 : Int).toNat ((wrap64 (x13_5 + 1)) : Int).toNat)) ++ ((rdOf ByteArray.empty x7_5 x12_3).extract ((wrap64 (((l1.length : Int) % ((rdOf ByteArray.empty x7_5 x12_3).size : Int)) + 1)) : Int).toNat (rdOf ByteArray.empty x7_5 x12_3).size))) t285).bind fun t318 => (if t318 < t300 then (some false) else (laws_FnStemFill.l1 kj41 l1 x5_5 t285 x7_5 t300 x12_3 (wrap64 (x13_5 + 1))))) else (none)) else (none)) else (none)) else (none)) else (none)) else (none)) else (none)) else (none)) else (none)) else (none))) else (none)))) else (none)) else (none)) = some r := by rw [if_pos rfl] at H; exact H
                   clear H
                   have H := H1
                   clear H1
                   by_cases c48 : 0 ≤ x12_3
                   ·rw [if_pos c48] at H
                    have c48b0 : decide (0 ≤ x12_3) = true := decide_eq_true c48
                    clear c48
                    by_cases c49 : x12_3 < (x7_5.length : Int)
                    ·rw [if_pos c49] at H
                     have c49b0 : decide (x12_3 < (x7_5.length : Int)) = true := decide_eq_true c49
                     clear c49
                     by_cases c50 : ((rdOf ByteArray.empty x7_5 x12_3).size : Int) = 0
                     ·rw [if_pos c50] at H
                      exact absurd H (by simp)
                     ·rw [if_neg c50] at H
                      have c50b0 : (((rdOf ByteArray.empty x7_5 x12_3).size : Int) == 0) = false := beq_eq_false_iff_ne.mpr c50
                      have c50b1 : (((rdOf ByteArray.empty x7_5 x12_3).size : Int) != 0) = true := bne_iff_ne.mpr c50
                      obtain ⟨y309, hy309⟩ : ∃ y_ : List ByteArray, y_ = (([] : List ByteArray)) := ⟨_, rfl⟩
                      replace H : (if y309.length + x7_5.length < 8796093022208 then ((some (y309 ++ x7_5 : List ByteArray)).bind fun y312 => (if 0 ≤ ((l1.length : Int) % ((rdOf ByteArray.empty x7_5 x12_3).size : Int)) then (if ((l1.length : Int) % ((rdOf ByteArray.empty x7_5 x12_3).size : Int)) ≤ ((rdOf ByteArray.empty x7_5 x12_3).size : Int) then (if 0 ≤ x13_5 then (if x13_5 ≤ (wrap64 (x13_5 + 1)) then (if (wrap64 (x13_5 + 1)) ≤ 4 then (if ((rdOf ByteArray.empty x7_5 x12_3).extract 0 (((l1.length : Int) % ((rdOf ByteArray.empty x7_5 x12_3).size : Int)) : Int).toNat).size + ((⟨#[97, 98, 99, 100]⟩ : ByteArray).extract (x13_5 : Int).toNat ((wrap64 (x13_5 + 1)) : Int).toNat).size ≤ 9223372036854775807 then (if 0 ≤ (wrap64 (((l1.length : Int) % ((rdOf ByteArray.empty x7_5 x12_3).size : Int)) + 1)) then (if (wrap64 (((l1.length : Int) % ((rdOf ByteArray.empty x7_5 x12_3).size : Int)) + 1)) ≤ ((rdOf ByteArray.empty x7_5 x12_3).size : Int) then (if (((rdOf ByteArray.empty x7_5 x12_3).extract 0 (((l1.length : Int) % ((rdOf ByteArray.empty x7_5 x12_3).size : Int)) : Int).toNat) ++ ((⟨#[97, 98, 99, 100]⟩ : ByteArray).extract (x13_5 : Int).toNat ((wrap64 (x13_5 + 1)) : Int).toNat)).size + ((rdOf ByteArray.empty x7_5 x12_3).extract ((wrap64 (((l1.length : Int) % ((rdOf ByteArray.empty x7_5 x12_3).size : Int)) + 1)) : Int).toNat (rdOf ByteArray.empty x7_5 x12_3).size).size ≤ 9223372036854775807 then (if x12_3 < (y312.length : Int) then ((impl_StemChanges.f kj41 (y312.set (x12_3 : Int).toNat ((((rdOf ByteArray.empty x7_5 x12_3).extract 0 (((l1.length : Int) % ((rdOf ByteArray.empty x7_5 x12_3).size : Int)) : Int).toNat) ++ ((⟨#[97, 98, 99, 100]⟩ : ByteArray).extract (x13_5 : Int).toNat ((wrap64 (x13_5 + 1)) : Int).toNat)) ++ ((rdOf ByteArray.empty x7_5 x12_3).extract ((wrap64 (((l1.length : Int) % ((rdOf ByteArray.empty x7_5 x12_3).size : Int)) + 1)) : Int).toNat (rdOf ByteArray.empty x7_5 x12_3).size))) t285).bind fun t318 => (if t318 < t300 then (some false) else (laws_FnStemFill.l1 kj41 l1 x5_5 t285 x7_5 t300 x12_3 (wrap64 (x13_5 + 1))))) else (none)) else (none)) else (none)) else (none)) else (none)) else (none)) else (none)) else (none)) else (none)) else (none))) else (none)) = some r := by first | (rw [hy309]; with_reducible exact H) | (have H2_ := (Option.bind_some _ _).symm.trans H; rw [hy309]; with_reducible exact H2_) | (have H2_ := (Option.bind_some _ _).symm.trans H; with_reducible exact H2_) | with_reducible exact H | (rw [hy309]; exact H) | exact H
                      have Ny309 := am hy309
                      clear hy309
                      by_cases c51 : y309.length + x7_5.length < 8796093022208
                      ·rw [if_pos c51] at H
                       have LMc51 := am c51
                       clear c51
                       obtain ⟨y312, hy312⟩ : ∃ y_ : List ByteArray, y_ = (y309 ++ x7_5) := ⟨_, rfl⟩
                       replace H : (if 0 ≤ ((l1.length : Int) % ((rdOf ByteArray.empty x7_5 x12_3).size : Int)) then (if ((l1.length : Int) % ((rdOf ByteArray.empty x7_5 x12_3).size : Int)) ≤ ((rdOf ByteArray.empty x7_5 x12_3).size : Int) then (if 0 ≤ x13_5 then (if x13_5 ≤ (wrap64 (x13_5 + 1)) then (if (wrap64 (x13_5 + 1)) ≤ 4 then (if ((rdOf ByteArray.empty x7_5 x12_3).extract 0 (((l1.length : Int) % ((rdOf ByteArray.empty x7_5 x12_3).size : Int)) : Int).toNat).size + ((⟨#[97, 98, 99, 100]⟩ : ByteArray).extract (x13_5 : Int).toNat ((wrap64 (x13_5 + 1)) : Int).toNat).size ≤ 9223372036854775807 then (if 0 ≤ (wrap64 (((l1.length : Int) % ((rdOf ByteArray.empty x7_5 x12_3).size : Int)) + 1)) then (if (wrap64 (((l1.length : Int) % ((rdOf ByteArray.empty x7_5 x12_3).size : Int)) + 1)) ≤ ((rdOf ByteArray.empty x7_5 x12_3).size : Int) then (if (((rdOf ByteArray.empty x7_5 x12_3).extract 0 (((l1.length : Int) % ((rdOf ByteArray.empty x7_5 x12_3).size : Int)) : Int).toNat) ++ ((⟨#[97, 98, 99, 100]⟩ : ByteArray).extract (x13_5 : Int).toNat ((wrap64 (x13_5 + 1)) : Int).toNat)).size + ((rdOf ByteArray.empty x7_5 x12_3).extract ((wrap64 (((l1.length : Int) % ((rdOf ByteArray.empty x7_5 x12_3).size : Int)) + 1)) : Int).toNat (rdOf ByteArray.empty x7_5 x12_3).size).size ≤ 9223372036854775807 then (if x12_3 < (y312.length : Int) then ((impl_StemChanges.f kj41 (y312.set (x12_3 : Int).toNat ((((rdOf ByteArray.empty x7_5 x12_3).extract 0 (((l1.length : Int) % ((rdOf ByteArray.empty x7_5 x12_3).size : Int)) : Int).toNat) ++ ((⟨#[97, 98, 99, 100]⟩ : ByteArray).extract (x13_5 : Int).toNat ((wrap64 (x13_5 + 1)) : Int).toNat)) ++ ((rdOf ByteArray.empty x7_5 x12_3).extract ((wrap64 (((l1.length : Int) % ((rdOf ByteArray.empty x7_5 x12_3).size : Int)) + 1)) : Int).toNat (rdOf ByteArray.empty x7_5 x12_3).size))) t285).bind fun t318 => (if t318 < t300 then (some false) else (laws_FnStemFill.l1 kj41 l1 x5_5 t285 x7_5 t300 x12_3 (wrap64 (x13_5 + 1))))) else (none)) else (none)) else (none)) else (none)) else (none)) else (none)) else (none)) else (none)) else (none)) else (none)) = some r := by first | (rw [hy312]; with_reducible exact H) | (have H2_ := (Option.bind_some _ _).symm.trans H; rw [hy312]; with_reducible exact H2_) | (have H2_ := (Option.bind_some _ _).symm.trans H; with_reducible exact H2_) | with_reducible exact H | (rw [hy312]; exact H) | exact H
                       have Ny312 := am hy312
                       clear hy312
                       obtain ⟨ji52, hji52⟩ : ∃ j_ : Int, ((l1.length : Int) % ((rdOf ByteArray.empty x7_5 x12_3).size : Int)) = j_ := ⟨_, rfl⟩
                       replace H : (if 0 ≤ (ji52) then (if (ji52) ≤ ((rdOf ByteArray.empty x7_5 x12_3).size : Int) then (if 0 ≤ x13_5 then (if x13_5 ≤ (wrap64 (x13_5 + 1)) then (if (wrap64 (x13_5 + 1)) ≤ 4 then (if ((rdOf ByteArray.empty x7_5 x12_3).extract 0 ((ji52) : Int).toNat).size + ((⟨#[97, 98, 99, 100]⟩ : ByteArray).extract (x13_5 : Int).toNat ((wrap64 (x13_5 + 1)) : Int).toNat).size ≤ 9223372036854775807 then (if 0 ≤ (wrap64 ((ji52) + 1)) then (if (wrap64 ((ji52) + 1)) ≤ ((rdOf ByteArray.empty x7_5 x12_3).size : Int) then (if (((rdOf ByteArray.empty x7_5 x12_3).extract 0 ((ji52) : Int).toNat) ++ ((⟨#[97, 98, 99, 100]⟩ : ByteArray).extract (x13_5 : Int).toNat ((wrap64 (x13_5 + 1)) : Int).toNat)).size + ((rdOf ByteArray.empty x7_5 x12_3).extract ((wrap64 ((ji52) + 1)) : Int).toNat (rdOf ByteArray.empty x7_5 x12_3).size).size ≤ 9223372036854775807 then (if x12_3 < (y312.length : Int) then ((impl_StemChanges.f kj41 (y312.set (x12_3 : Int).toNat ((((rdOf ByteArray.empty x7_5 x12_3).extract 0 ((ji52) : Int).toNat) ++ ((⟨#[97, 98, 99, 100]⟩ : ByteArray).extract (x13_5 : Int).toNat ((wrap64 (x13_5 + 1)) : Int).toNat)) ++ ((rdOf ByteArray.empty x7_5 x12_3).extract ((wrap64 ((ji52) + 1)) : Int).toNat (rdOf ByteArray.empty x7_5 x12_3).size))) t285).bind fun t318 => (if t318 < t300 then (some false) else (laws_FnStemFill.l1 kj41 l1 x5_5 t285 x7_5 t300 x12_3 (wrap64 (x13_5 + 1))))) else (none)) else (none)) else (none)) else (none)) else (none)) else (none)) else (none)) else (none)) else (none)) else (none)) = some r := by first | (rw [hji52] at H; exact H) | (simp only [hji52] at H ⊢; exact H)
                       by_cases c53 : 0 ≤ (ji52)
                       ·rw [if_pos c53] at H
                        have c53b0 := eq_true c53
                        have c53b1 : decide (0 ≤ (ji52)) = true := decide_eq_true c53
                        clear c53
                        by_cases c54 : (ji52) ≤ ((rdOf ByteArray.empty x7_5 x12_3).size : Int)
                        ·rw [if_pos c54] at H
                         have c54b0 := eq_true c54
                         have c54b1 : decide ((ji52) ≤ ((rdOf ByteArray.empty x7_5 x12_3).size : Int)) = true := decide_eq_true c54
                         clear c54
                         by_cases c55 : 0 ≤ x13_5
                         ·rw [if_pos c55] at H
                          have c55b0 := eq_true c55
                          have c55b1 : decide (0 ≤ x13_5) = true := decide_eq_true c55
                          clear c55
                          by_cases c56 : x13_5 ≤ (wrap64 (x13_5 + 1))
                          ·rw [if_pos c56] at H
                           have c56b0 := eq_true c56
                           have c56b1 : decide (x13_5 ≤ (wrap64 (x13_5 + 1))) = true := decide_eq_true c56
                           by_cases c57 : (wrap64 (x13_5 + 1)) ≤ 4
                           ·rw [if_pos c57] at H
                            have c57b0 := eq_true c57
                            have c57b1 : decide ((wrap64 (x13_5 + 1)) ≤ 4) = true := decide_eq_true c57
                            by_cases c58 : ((rdOf ByteArray.empty x7_5 x12_3).extract 0 ((ji52) : Int).toNat).size + ((⟨#[97, 98, 99, 100]⟩ : ByteArray).extract (x13_5 : Int).toNat ((wrap64 (x13_5 + 1)) : Int).toNat).size ≤ 9223372036854775807
                            ·rw [if_pos c58] at H
                             have c58b0 := eq_true c58
                             have c58b1 : decide (((rdOf ByteArray.empty x7_5 x12_3).extract 0 ((ji52) : Int).toNat).size + ((⟨#[97, 98, 99, 100]⟩ : ByteArray).extract (x13_5 : Int).toNat ((wrap64 (x13_5 + 1)) : Int).toNat).size ≤ 9223372036854775807) = true := decide_eq_true c58
                             try have c58b2 : (9223372036854775807 < ((rdOf ByteArray.empty x7_5 x12_3).extract 0 ((ji52) : Int).toNat).size + ((⟨#[97, 98, 99, 100]⟩ : ByteArray).extract (x13_5 : Int).toNat ((wrap64 (x13_5 + 1)) : Int).toNat).size) = False := eq_false (Nat.not_lt.2 c58)
                             try have c58b5 : (9223372036854775807 < ((rdOf ByteArray.empty x7_5 x12_3).extract 0 ((ji52) : Int).toNat).size + ((wrap64 (x13_5 + 1)).toNat - x13_5.toNat)) = False := eq_false (by have h_ := c58; have h2_ : (⟨#[97, 98, 99, 100]⟩ : ByteArray).size = 4 := rfl; simp only [ByteArray.size_extract, h2_] at h_; omega)
                             try have c58b72 : (9223372036854775807 < ji52.toNat + ((wrap64 (x13_5 + 1)).toNat - x13_5.toNat)) = False := eq_false (by have h_ := c58; have h3_ : (⟨#[97, 98, 99, 100]⟩ : ByteArray).size = 4 := rfl; simp only [ByteArray.size_append, ByteArray.size_extract, h3_] at h_; (try have := of_eq_true c53b0); (try have := of_eq_true c54b0); (try have := of_eq_true c55b0); (try have := of_eq_true c56b0); (try have := of_eq_true c57b0); (try have := of_eq_true c58b0); omega)
                             obtain ⟨ji59, hji59⟩ : ∃ j_ : Int, (wrap64 ((ji52) + 1)) = j_ := ⟨_, rfl⟩
                             replace H : (if 0 ≤ (ji59) then (if (ji59) ≤ ((rdOf ByteArray.empty x7_5 x12_3).size : Int) then (if (((rdOf ByteArray.empty x7_5 x12_3).extract 0 ((ji52) : Int).toNat) ++ ((⟨#[97, 98, 99, 100]⟩ : ByteArray).extract (x13_5 : Int).toNat ((wrap64 (x13_5 + 1)) : Int).toNat)).size + ((rdOf ByteArray.empty x7_5 x12_3).extract ((ji59) : Int).toNat (rdOf ByteArray.empty x7_5 x12_3).size).size ≤ 9223372036854775807 then (if x12_3 < (y312.length : Int) then ((impl_StemChanges.f kj41 (y312.set (x12_3 : Int).toNat ((((rdOf ByteArray.empty x7_5 x12_3).extract 0 ((ji52) : Int).toNat) ++ ((⟨#[97, 98, 99, 100]⟩ : ByteArray).extract (x13_5 : Int).toNat ((wrap64 (x13_5 + 1)) : Int).toNat)) ++ ((rdOf ByteArray.empty x7_5 x12_3).extract ((ji59) : Int).toNat (rdOf ByteArray.empty x7_5 x12_3).size))) t285).bind fun t318 => (if t318 < t300 then (some false) else (laws_FnStemFill.l1 kj41 l1 x5_5 t285 x7_5 t300 x12_3 (wrap64 (x13_5 + 1))))) else (none)) else (none)) else (none)) else (none)) = some r := by first | (rw [hji59] at H; exact H) | (simp only [hji59] at H ⊢; exact H)
                             have hji59w : (IntKind.i64.wrap ((ji52) + 1)) = ji59 := (i64_w _).trans hji59
                             by_cases c60 : 0 ≤ (ji59)
                             ·rw [if_pos c60] at H
                              have c60b0 := eq_true c60
                              have c60b1 : decide (0 ≤ (ji59)) = true := decide_eq_true c60
                              clear c60
                              by_cases c61 : (ji59) ≤ ((rdOf ByteArray.empty x7_5 x12_3).size : Int)
                              ·rw [if_pos c61] at H
                               have c61b0 := eq_true c61
                               have c61b1 : decide ((ji59) ≤ ((rdOf ByteArray.empty x7_5 x12_3).size : Int)) = true := decide_eq_true c61
                               clear c61
                               by_cases c62 : (((rdOf ByteArray.empty x7_5 x12_3).extract 0 ((ji52) : Int).toNat) ++ ((⟨#[97, 98, 99, 100]⟩ : ByteArray).extract (x13_5 : Int).toNat ((wrap64 (x13_5 + 1)) : Int).toNat)).size + ((rdOf ByteArray.empty x7_5 x12_3).extract ((ji59) : Int).toNat (rdOf ByteArray.empty x7_5 x12_3).size).size ≤ 9223372036854775807
                               ·rw [if_pos c62] at H
                                have c62b0 := eq_true c62
                                have c62b1 : decide ((((rdOf ByteArray.empty x7_5 x12_3).extract 0 ((ji52) : Int).toNat) ++ ((⟨#[97, 98, 99, 100]⟩ : ByteArray).extract (x13_5 : Int).toNat ((wrap64 (x13_5 + 1)) : Int).toNat)).size + ((rdOf ByteArray.empty x7_5 x12_3).extract ((ji59) : Int).toNat (rdOf ByteArray.empty x7_5 x12_3).size).size ≤ 9223372036854775807) = true := decide_eq_true c62
                                try have c62b2 : (9223372036854775807 < (((rdOf ByteArray.empty x7_5 x12_3).extract 0 ((ji52) : Int).toNat) ++ ((⟨#[97, 98, 99, 100]⟩ : ByteArray).extract (x13_5 : Int).toNat ((wrap64 (x13_5 + 1)) : Int).toNat)).size + ((rdOf ByteArray.empty x7_5 x12_3).extract ((ji59) : Int).toNat (rdOf ByteArray.empty x7_5 x12_3).size).size) = False := eq_false (Nat.not_lt.2 c62)
                                try have c62b4 : (9223372036854775807 < ((rdOf ByteArray.empty x7_5 x12_3).extract 0 ((ji52) : Int).toNat).size + (((⟨#[97, 98, 99, 100]⟩ : ByteArray).extract (x13_5 : Int).toNat ((wrap64 (x13_5 + 1)) : Int).toNat).size) + ((rdOf ByteArray.empty x7_5 x12_3).extract ((ji59) : Int).toNat (rdOf ByteArray.empty x7_5 x12_3).size).size) = False := eq_false (by have h_ := c62; simp only [ByteArray.size_append] at h_; skip; omega)
                                try have c62b74 : (9223372036854775807 < ji52.toNat + (((wrap64 (x13_5 + 1)).toNat - x13_5.toNat)) + ((rdOf ByteArray.empty x7_5 x12_3).size - ji59.toNat)) = False := eq_false (by have h_ := c62; have h3_ : (⟨#[97, 98, 99, 100]⟩ : ByteArray).size = 4 := rfl; simp only [ByteArray.size_append, ByteArray.size_extract, h3_] at h_; (try have := of_eq_true c53b0); (try have := of_eq_true c54b0); (try have := of_eq_true c55b0); (try have := of_eq_true c56b0); (try have := of_eq_true c57b0); (try have := of_eq_true c58b0); (try have := of_eq_true c60b0); (try have := of_eq_true c61b0); (try have := of_eq_true c62b0); omega)
                                by_cases c63 : x12_3 < (y312.length : Int)
                                ·rw [if_pos c63] at H
                                 have c63b0 : decide (x12_3 < (y312.length : Int)) = true := decide_eq_true c63
                                 clear c63
                                 obtain ⟨y317, hy317⟩ : ∃ y_ : List ByteArray, y_ = (y312.set (x12_3 : Int).toNat ((((rdOf ByteArray.empty x7_5 x12_3).extract 0 ((ji52) : Int).toNat) ++ ((⟨#[97, 98, 99, 100]⟩ : ByteArray).extract (x13_5 : Int).toNat ((wrap64 (x13_5 + 1)) : Int).toNat)) ++ ((rdOf ByteArray.empty x7_5 x12_3).extract ((ji59) : Int).toNat (rdOf ByteArray.empty x7_5 x12_3).size))) := ⟨_, rfl⟩
                                 replace H : ((impl_StemChanges.f kj41 y317 t285).bind fun t318 => (if t318 < t300 then (some false) else (laws_FnStemFill.l1 kj41 l1 x5_5 t285 x7_5 t300 x12_3 (wrap64 (x13_5 + 1))))) = some r := by first | (rw [hy317]; with_reducible exact H) | (have H2_ := (Option.bind_some _ _).symm.trans H; rw [hy317]; with_reducible exact H2_) | (have H2_ := (Option.bind_some _ _).symm.trans H; with_reducible exact H2_) | with_reducible exact H | (rw [hy317]; exact H) | exact H
                                 have Ny317 := am hy317
                                 clear hy317
                                 replace H := Option.bind_eq_some_iff.mp H
                                 obtain ⟨t318, A650, H⟩ := H
                                 replace H : (if t318 < t300 then (some false) else (laws_FnStemFill.l1 kj41 l1 x5_5 t285 x7_5 t300 x12_3 (wrap64 (x13_5 + 1)))) = some r := H
                                 have A65 := am A650
                                 clear A650
                                 by_cases c66 : t318 < t300
                                 ·rw [if_pos c66] at H
                                  have c66b0 : decide (t318 < t300) = true := decide_eq_true c66
                                  clear c66
                                  obtain rfl := Option.some.inj H
                                  have p308 : 0 ≤ (x12_3 : Int) := od
                                  have q308 : x12_3 < (x7_5.length : Int) := od
                                  obtain ⟨ad308, e308, hx308_0⟩ := Kd.at_string (Kd.R_reads' HO_7.out).2.2 x12_3 p308 q308
                                  cases e308
                                  replace p308 := eq_true p308
                                  replace q308 := eq_true q308
                                  try go_wp2_with (first | ((with_reducible refine gate_dst (N := 112) rfl ?_); (try (refine gate_guard (by rfl) ?_; dsimp only)); refine Kd.R_lit Kd.string _ 9 ?hg (N := 112) ?hd (xs := ([] : List ByteArray)) (inner := []) (ok := fun _ => True) (okp := fun _ => True) ?hr ?hp (fun _ hk => hk) trivial (Below.refl _ _) (Nat.le_refl _) (by simp) ?_; (case hd => rfl); (case hg => rfl); (case hr => first | (go_simp; done) | (go_simp; rfl)); (case hp => exact (Reps.none _ _)); intro v310 w67 ho68 hb hg_ hnew_; clear hg_ hnew_; (first | rw [← Ny309.out] at ho68 | (simp only [Int.reduceToNat] at ho68; rw [← Ny309.out] at ho68)); have n0_ := am (Kd.R_elder' (ru HO_5.out) (Kd.R_base ho68) hb); have n1_ := am (Kd.Q_below (by (with_reducible repeat (first | apply Kd.Q_alloc | apply Kd.Q_drewN | apply Kd.Q_drew)); exact HO_6.out) hb); have n2_ := am (Kd.R_elder' (ru HO_7.out) (Kd.R_base ho68) hb); have n3_ := am (Kd.R_lower (Kd.R_new' (Kd.R_new' ho68 (Kd.R_lt (ru HO_5.out))) (Kd.R_lt (ru HO_7.out))) (below_size (bu HB.out))); have n4_ := am (below_step (bu HB.out) hb); clear HO_5; clear HO_6; clear HO_7; clear HB; have HO_5 := n0_; have HO_6 := n1_; have HO_7 := n2_; have HO311 := n3_; have HB := n4_; clear n0_ n1_ n2_ n3_ n4_; clear hb ho68) | ((with_reducible refine gate_builtin (b := .append) (xs := #[.tmp 112, .tmp 113]) rfl ?_); (try (refine gate_guard (by rfl) ?_; dsimp only)); at_builtin; refine Kd.R_append_rows Kd.string (w0 := w) w.heap.size rfl (.tmp 112) (.tmp 113) 23 9 (.string ⟨#[]⟩) 16 rfl Tryd.underlying23 info9 rfl (by decide) (by omega) v310 y309 x7_5 _ _ _ (fun k_ => some k_ ≠ (.slice Ao11 x5_5.length co11 : Value).ownBlock ∧ some k_ ≠ (.slice (some ad308) x7_5.length co30 : Value).ownBlock) (fun _ => False) rfl rfl ?aO ?aR (fun _ _ h => h) (fun _ h => h.elim) ?aF ?aB ?aS ?aL ?_; (case aR => exact cu (Kd.R_reads' HO_7.out).2.2); (case aB => exact (bu HB.out)); (case aF => exact (fun k_ hk => ⟨Kd.fresh' (Kd.R_lt (ru HO_5.out)) k_ hk, Kd.fresh' (Kd.R_lt (ru HO_7.out)) k_ hk⟩)); (case aO => exact (by (with_reducible repeat (first | apply Kd.R_alloc | apply Kd.R_drewN | apply Kd.R_drew)); exact Kd.R_mono HO311.out (fun _ hk => ⟨hk.1.2, hk.2⟩))); (case aS => exact (below_size (bu HB.out))); (case aL => have := LMc51.out; omega); intro v313 w69 ho hb hg hat; rw [← Ny312.out] at ho; have n0_ := am (Kd.R_after (ok := (fun k_ => some k_ ≠ (.slice (some ad308) x7_5.length co30 : Value).ownBlock)) (ru HO_5.out) hg hat); have n1_ := am (Kd.Q_over' (by (with_reducible repeat (first | apply Kd.Q_alloc | apply Kd.Q_drewN | apply Kd.Q_drew)); exact HO_6.out) (Kd.R_typed (ru HO311.out)) (by decide) hg); have n2_ := am (Kd.R_after (ok := (fun k_ => some k_ ≠ (.slice Ao11 x5_5.length co11 : Value).ownBlock)) (ru HO_7.out) hg hat); have n3_ := am (hb); have n4_ := am (ho); clear HO_5; clear HO_6; clear HO_7; clear HB; clear HO311; have HO_5 := n0_; have HO_6 := n1_; have HO_7 := n2_; have HB := n3_; have HO314 := n4_; clear n0_ n1_ n2_ n3_ n4_; clear ho hb hg hat))
                                  have n0_ := am (Kd.R_drew HO_5.out)
                                  have n1_ := am (Kd.Q_drew HO_6.out)
                                  have n2_ := am (Kd.R_drew HO_7.out)
                                  have n3_ := am (Kd.R_drew HO314.out)
                                  have n4_ := am (below_drew1 HB.out)
                                  clear HO_5
                                  clear HO_6
                                  clear HO_7
                                  clear HO314
                                  clear HB
                                  have HO_5 := n0_
                                  have HO_6 := n1_
                                  have HO_7 := n2_
                                  have HO314 := n3_
                                  have HB := n4_
                                  clear n0_ n1_ n2_ n3_ n4_
                                  have p315 : 0 ≤ (x12_3 : Int) := od
                                  have q315 : x12_3 < (x7_5.length : Int) := od
                                  obtain ⟨ad315, e315, hx315_0⟩ := Kd.at_string (Kd.R_reads' HO_7.out).2.2 x12_3 p315 q315
                                  obtain rfl : ad308 = ad315 := (by injection e315)
                                  replace p315 := eq_true p315
                                  replace q315 := eq_true q315
                                  have p316 : 0 ≤ (x12_3 : Int) := od
                                  have q316 : x12_3 < (x7_5.length : Int) := od
                                  obtain ⟨ad316, e316, hx316_0⟩ := Kd.at_string (Kd.R_reads' HO_7.out).2.2 x12_3 p316 q316
                                  obtain rfl : ad308 = ad316 := (by injection e316)
                                  replace p316 := eq_true p316
                                  replace q316 := eq_true q316
                                  have p64 : 0 ≤ (x12_3 : Int) := od
                                  have q64 : (x12_3 : Int) < ((y312.length : Int) : Int) := od
                                  obtain ⟨go64, co64, eo64, gb64, gl64, cl64, HG64⟩ := Kd.R_form HO314.out (by omega)
                                  (first | cases eo64 | (injection eo64 with ea_ en_ ec_; (first | subst ea_ | (injection ea_ with ea_; subst ea_)); subst ec_; clear en_))
                                  have GB64 := am gb64
                                  have GG64 := am HG64
                                  clear gb64 gl64 HG64
                                  obtain ⟨hx64_0, hf64_0⟩ := Kd.R_celln (⟨#[]⟩ : ByteArray) HO314.out (x12_3 : Int) p64 q64
                                  replace p64 := eq_true p64
                                  replace q64 := eq_true q64
                                  have HP71 := Kd.R_putn HO314.out (x12_3 : Int) ((((rdOf ByteArray.empty x7_5 x12_3).extract 0 ((ji52) : Int).toNat) ++ ((⟨#[97, 98, 99, 100]⟩ : ByteArray).extract (x13_5 : Int).toNat ((wrap64 (x13_5 + 1)) : Int).toNat)) ++ ((rdOf ByteArray.empty x7_5 x12_3).extract ((ji59) : Int).toNat (rdOf ByteArray.empty x7_5 x12_3).size))
                                  rw [← Ny317.out] at HP71
                                  have HQ71 := am HP71
                                  clear HP71
                                  refine start_ (n := 23) (S := fun w' => w'.cell? (ad308.add (x12_3).toNat) = some (.string (rdOf ByteArray.empty x7_5 x12_3)) ∧ w'.cell? (ad308.add (x12_3).toNat) = some (.string (rdOf ByteArray.empty x7_5 x12_3))) (ds := [22]) #[F,F,F,F,F,F,F,F,F,F,F,F,F,F,F,F,F,F,F,F,F,F,F] (by kernel_rfl) rfl rfl ⟨hx315_0, hx316_0⟩ (fun hHeld => ?_); refine with_tabW laws_FnStemFill.tab21 laws_FnStemFill.bits21 (fun HT_ HW_ => ?_)
                                  generalize w69.drew = w70 at HO_5 HO_6 HO_7 HO314 HB GG64 HQ71 hf64_0 hx315_0 hx316_0 hx64_0 hHeld ⊢
                                  refine pz 0 (some 115) #[T,F,F,F,F,F,F,F,F,F,F,F,F,F,F,F,F,F,F,F,F,F,F] (any_of HT_.out (by kernel_rfl)) (h := ?_)
                                  refine pz 1 (some 116) #[T,T,F,F,F,F,F,F,F,F,F,F,F,F,F,F,F,F,F,F,F,F,F] (any_of HT_.out (by kernel_rfl)) (h := ?_)
                                  refine pz 2 (some 117) #[T,T,T,F,F,F,F,F,F,F,F,F,F,F,F,F,F,F,F,F,F,F,F] (any_of HT_.out (by kernel_rfl)) (h := ?_)
                                  refine pz 3 (some 118) #[T,T,T,T,F,F,F,F,F,F,F,F,F,F,F,F,F,F,F,F,F,F,F] (any_of HT_.out (by kernel_rfl)) (h := ?_)
                                  refine pz 4 (some 119) #[T,T,T,T,T,F,F,F,F,F,F,F,F,F,F,F,F,F,F,F,F,F,F] (any_of HT_.out (by kernel_rfl)) (h := ?_)
                                  refine pz 6 (some 121) #[T,T,T,T,T,F,T,F,F,F,F,F,F,F,F,F,F,F,F,F,F,F,F] (any_of HT_.out (by kernel_rfl)) (h := ?_)
                                  refine pz 8 (some 123) #[T,T,T,T,T,F,T,F,T,F,F,F,F,F,F,F,F,F,F,F,F,F,F] (any_of HT_.out (by kernel_rfl)) (h := ?_)
                                  refine pz 9 (some 124) #[T,T,T,T,T,F,T,F,T,T,F,F,F,F,F,F,F,F,F,F,F,F,F] (any_of HT_.out (by kernel_rfl)) (h := ?_)
                                  refine pz 10 (some 125) #[T,T,T,T,T,F,T,F,T,T,T,F,F,F,F,F,F,F,F,F,F,F,F] (any_of HT_.out (by kernel_rfl)) (h := ?_)
                                  refine pz 11 (some 126) #[T,T,T,T,T,F,T,F,T,T,T,T,F,F,F,F,F,F,F,F,F,F,F] (any_of HT_.out (by kernel_rfl)) (h := ?_)
                                  refine pz 13 (some 128) #[T,T,T,T,T,F,T,F,T,T,T,T,F,T,F,F,F,F,F,F,F,F,F] (any_of HT_.out (by kernel_rfl)) (h := ?_)
                                  refine pz 14 (some 129) #[T,T,T,T,T,F,T,F,T,T,T,T,F,T,T,F,F,F,F,F,F,F,F] (any_of HT_.out (by kernel_rfl)) (h := ?_)
                                  refine pz 15 (some 130) #[T,T,T,T,T,F,T,F,T,T,T,T,F,T,T,T,F,F,F,F,F,F,F] (any_of HT_.out (by kernel_rfl)) (h := ?_)
                                  refine pz 17 (some 132) #[T,T,T,T,T,F,T,F,T,T,T,T,F,T,T,T,F,T,F,F,F,F,F] (any_of HT_.out (by kernel_rfl)) (h := ?_)
                                  refine pz 18 (some 133) #[T,T,T,T,T,F,T,F,T,T,T,T,F,T,T,T,F,T,T,F,F,F,F] (any_of HT_.out (by kernel_rfl)) (h := ?_)
                                  refine tz hHeld 5 (some 120) #[T,T,T,T,T,T,T,F,T,T,T,T,F,T,T,T,F,T,T,F,F,F,F] (take_ofW HT_.out HW_.out (by kernel_rfl)) (h := ?_)
                                  refine pz 7 (some 122) #[T,T,T,T,T,T,T,T,T,T,T,T,F,T,T,T,F,T,T,F,F,F,F] (any_of HT_.out (by kernel_rfl)) (h := ?_)
                                  refine pz 12 (some 127) #[T,T,T,T,T,T,T,T,T,T,T,T,T,T,T,T,F,T,T,F,F,F,F] (any_of HT_.out (by kernel_rfl)) (h := ?_)
                                  refine tz hHeld 16 (some 131) #[T,T,T,T,T,T,T,T,T,T,T,T,T,T,T,T,T,T,T,F,F,F,F] (take_ofW HT_.out HW_.out (by kernel_rfl)) (h := ?_)
                                  refine pz 19 (some 134) #[T,T,T,T,T,T,T,T,T,T,T,T,T,T,T,T,T,T,T,T,F,F,F] (any_of HT_.out (by kernel_rfl)) (h := ?_)
                                  refine pz 20 (some 135) #[T,T,T,T,T,T,T,T,T,T,T,T,T,T,T,T,T,T,T,T,T,F,F] (any_of HT_.out (by kernel_rfl)) (h := ?_)
                                  refine pz 21 (some 136) #[T,T,T,T,T,T,T,T,T,T,T,T,T,T,T,T,T,T,T,T,T,T,F] (any_of HT_.out (by kernel_rfl)) (h := ?_)
                                  refine last_ (i := 22) (N := none) #[T,T,T,T,T,T,T,T,T,T,T,T,T,T,T,T,T,T,T,T,T,T,T] rfl rfl (one_of HT_.out (by kernel_rfl)) (by decide) (fun K hK => ?_)
                                  refine skip_ (w1 := ?_) (by rfl) rfl ?_ ?_
                                  rotate_left
                                  ·go_simp
                                   rfl
                                  refine hK.out _ _ ?_
                                  clear hK K
                                  refine done_ (done_of HT_.out (by kernel_rfl)) ?_
                                  try go_wp2_with (first | ((with_reducible refine gate_callee (f := 8) rfl ?_); refine goesL_ (some 139) rfl rfl Tryd.func8 (by kernel_rfl) rfl #[.slice (some ⟨go64, 0, none⟩) y317.length co64, .slice Ao12 t285.length co12] rfl (by (try simp only [List.map_toArray, List.map_cons, List.map_nil]); first | done | (rw [show y317.length = y312.length from (Kd.R_reads' HQ71.out).1.symm] <;> rfl) | rfl | (simp only [List.length_drop, List.length_take]; rfl)) ?_; (with_reducible refine (impl_StemChanges.calls kj41 _ _ y317 _ _ t285 t318 _ ?side1 ?side2 ?side3 ?side4 A65.out).mono ?_); (case side1 => refine (Kd.R_reads' (e := 9) (base := w.heap.size) (ok := fun k_ => (some k_ ≠ (.slice Ao11 x5_5.length co11 : Value).ownBlock ∧ some k_ ≠ (.slice (some ad308) x7_5.length co30 : Value).ownBlock)) (n := y312.length) (c := co64) ?_).2.2; exact (ru HQ71.out)); (case side2 => rw [show y317.length = y312.length from (Kd.R_reads' HQ71.out).1.symm]; exact (Kd.R_reads' HO314.out).2.1); (case side3 => refine (Kd.Q_reads' (e := 3) (base := w.heap.size) (ok := fun k_ => True) (n := t285.length) (c := co12) ?_).2.2; exact (by (with_reducible repeat (first | apply Kd.Q_alloc | apply Kd.Q_drewN | apply Kd.Q_drew)); exact (Kd.Q_mono (Kd.Q_far (p := ⟨go64, (x12_3 : Int).toNat, none⟩) (Kd.Q_types HO_6.out GG64.out (by decide)) (fun _ hk => hk.2) (.string ((((rdOf ByteArray.empty x7_5 x12_3).extract 0 ((ji52) : Int).toNat) ++ ((⟨#[97, 98, 99, 100]⟩ : ByteArray).extract (x13_5 : Int).toNat ((wrap64 (x13_5 + 1)) : Int).toNat)) ++ ((rdOf ByteArray.empty x7_5 x12_3).extract ((ji59) : Int).toNat (rdOf ByteArray.empty x7_5 x12_3).size)))) (fun _ h_ => h_.1)))); (case side4 => exact (Kd.Q_reads' HO_6.out).2.1); rintro e w72 ⟨rfl, hb⟩; refine ⟨_, rfl, ?_⟩; have n0_ := am (Kd.R_below (by (with_reducible repeat (first | apply Kd.R_alloc | apply Kd.R_drewN | apply Kd.R_drew)); exact (Kd.R_mono (Kd.R_far (p := ⟨go64, (x12_3 : Int).toNat, none⟩) (Kd.R_mono HO_5.out (fun k_ hk => (⟨hk, fun e_ => hk.2 (by rw [e_]; rfl)⟩ : _ ∧ k_ ≠ go64))) (fun _ hk => hk.2) (.string ((((rdOf ByteArray.empty x7_5 x12_3).extract 0 ((ji52) : Int).toNat) ++ ((⟨#[97, 98, 99, 100]⟩ : ByteArray).extract (x13_5 : Int).toNat ((wrap64 (x13_5 + 1)) : Int).toNat)) ++ ((rdOf ByteArray.empty x7_5 x12_3).extract ((ji59) : Int).toNat (rdOf ByteArray.empty x7_5 x12_3).size)))) (fun _ h_ => h_.1))) hb); have n1_ := am (Kd.Q_below (by (with_reducible repeat (first | apply Kd.Q_alloc | apply Kd.Q_drewN | apply Kd.Q_drew)); exact (Kd.Q_mono (Kd.Q_far (p := ⟨go64, (x12_3 : Int).toNat, none⟩) (Kd.Q_types HO_6.out GG64.out (by decide)) (fun _ hk => hk.2) (.string ((((rdOf ByteArray.empty x7_5 x12_3).extract 0 ((ji52) : Int).toNat) ++ ((⟨#[97, 98, 99, 100]⟩ : ByteArray).extract (x13_5 : Int).toNat ((wrap64 (x13_5 + 1)) : Int).toNat)) ++ ((rdOf ByteArray.empty x7_5 x12_3).extract ((ji59) : Int).toNat (rdOf ByteArray.empty x7_5 x12_3).size)))) (fun _ h_ => h_.1))) hb); have n2_ := am (Kd.R_below (by (with_reducible repeat (first | apply Kd.R_alloc | apply Kd.R_drewN | apply Kd.R_drew)); exact (Kd.R_mono (Kd.R_far (p := ⟨go64, (x12_3 : Int).toNat, none⟩) (Kd.R_mono HO_7.out (fun k_ hk => (⟨hk, fun e_ => hk.2 (by rw [e_]; rfl)⟩ : _ ∧ k_ ≠ go64))) (fun _ hk => hk.2) (.string ((((rdOf ByteArray.empty x7_5 x12_3).extract 0 ((ji52) : Int).toNat) ++ ((⟨#[97, 98, 99, 100]⟩ : ByteArray).extract (x13_5 : Int).toNat ((wrap64 (x13_5 + 1)) : Int).toNat)) ++ ((rdOf ByteArray.empty x7_5 x12_3).extract ((ji59) : Int).toNat (rdOf ByteArray.empty x7_5 x12_3).size)))) (fun _ h_ => h_.1))) hb); have n3_ := am (Kd.R_below (ru HQ71.out) hb); have n4_ := am (below_step (by repeat (first | (with_reducible first | exact HB.out | apply below_alloc | apply pw_below_drewN | apply below_drew1 | refine below_set ?_ GB64.out) | exact HB.out)) hb); clear HO_5; clear HO_6; clear HO_7; clear HO314; clear HB; have HO_5 := n0_; have HO_6 := n1_; have HO_7 := n2_; have HO314 := n3_; have HB := n4_; clear n0_ n1_ n2_ n3_ n4_; (try clear hb); (try clear hb2); (try clear hk); (try clear hi)))
                                  go_ret
                                  exact ⟨by first | rfl | (simp [errW_none, errW_some] <;> rfl) | (simp only [← hji52, ← hji59]; first | rfl | (simp [errW_none, errW_some] <;> rfl)) | (simp [*, errW_none, errW_some] <;> rfl), bu HB.out⟩
                                 ·rw [if_neg c66] at H
                                  have c66b0 : decide (t318 < t300) = false := decide_eq_false c66
                                  clear c66
                                  have H' := am H
                                  clear H
                                  have p308 : 0 ≤ (x12_3 : Int) := od
                                  have q308 : x12_3 < (x7_5.length : Int) := od
                                  obtain ⟨ad308, e308, hx308_0⟩ := Kd.at_string (Kd.R_reads' HO_7.out).2.2 x12_3 p308 q308
                                  cases e308
                                  replace p308 := eq_true p308
                                  replace q308 := eq_true q308
                                  try go_wp2_with (first | ((with_reducible refine gate_dst (N := 112) rfl ?_); (try (refine gate_guard (by rfl) ?_; dsimp only)); refine Kd.R_lit Kd.string _ 9 ?hg (N := 112) ?hd (xs := ([] : List ByteArray)) (inner := []) (ok := fun _ => True) (okp := fun _ => True) ?hr ?hp (fun _ hk => hk) trivial (Below.refl _ _) (Nat.le_refl _) (by simp) ?_; (case hd => rfl); (case hg => rfl); (case hr => first | (go_simp; done) | (go_simp; rfl)); (case hp => exact (Reps.none _ _)); intro v310 w73 ho74 hb hg_ hnew_; clear hg_ hnew_; (first | rw [← Ny309.out] at ho74 | (simp only [Int.reduceToNat] at ho74; rw [← Ny309.out] at ho74)); have n0_ := am (Kd.R_elder' (ru HO_5.out) (Kd.R_base ho74) hb); have n1_ := am (Kd.Q_below (by (with_reducible repeat (first | apply Kd.Q_alloc | apply Kd.Q_drewN | apply Kd.Q_drew)); exact HO_6.out) hb); have n2_ := am (Kd.R_elder' (ru HO_7.out) (Kd.R_base ho74) hb); have n3_ := am (Kd.R_lower (Kd.R_new' (Kd.R_new' ho74 (Kd.R_lt (ru HO_5.out))) (Kd.R_lt (ru HO_7.out))) (below_size (bu HB.out))); have n4_ := am (below_step (bu HB.out) hb); clear HO_5; clear HO_6; clear HO_7; clear HB; have HO_5 := n0_; have HO_6 := n1_; have HO_7 := n2_; have HO311 := n3_; have HB := n4_; clear n0_ n1_ n2_ n3_ n4_; clear hb ho74) | ((with_reducible refine gate_builtin (b := .append) (xs := #[.tmp 112, .tmp 113]) rfl ?_); (try (refine gate_guard (by rfl) ?_; dsimp only)); at_builtin; refine Kd.R_append_rows Kd.string (w0 := w) w.heap.size rfl (.tmp 112) (.tmp 113) 23 9 (.string ⟨#[]⟩) 16 rfl Tryd.underlying23 info9 rfl (by decide) (by omega) v310 y309 x7_5 _ _ _ (fun k_ => some k_ ≠ (.slice Ao11 x5_5.length co11 : Value).ownBlock ∧ some k_ ≠ (.slice (some ad308) x7_5.length co30 : Value).ownBlock) (fun _ => False) rfl rfl ?aO ?aR (fun _ _ h => h) (fun _ h => h.elim) ?aF ?aB ?aS ?aL ?_; (case aR => exact cu (Kd.R_reads' HO_7.out).2.2); (case aB => exact (bu HB.out)); (case aF => exact (fun k_ hk => ⟨Kd.fresh' (Kd.R_lt (ru HO_5.out)) k_ hk, Kd.fresh' (Kd.R_lt (ru HO_7.out)) k_ hk⟩)); (case aO => exact (by (with_reducible repeat (first | apply Kd.R_alloc | apply Kd.R_drewN | apply Kd.R_drew)); exact Kd.R_mono HO311.out (fun _ hk => ⟨hk.1.2, hk.2⟩))); (case aS => exact (below_size (bu HB.out))); (case aL => have := LMc51.out; omega); intro v313 w75 ho hb hg hat; rw [← Ny312.out] at ho; have n0_ := am (Kd.R_after (ok := (fun k_ => some k_ ≠ (.slice (some ad308) x7_5.length co30 : Value).ownBlock)) (ru HO_5.out) hg hat); have n1_ := am (Kd.Q_over' (by (with_reducible repeat (first | apply Kd.Q_alloc | apply Kd.Q_drewN | apply Kd.Q_drew)); exact HO_6.out) (Kd.R_typed (ru HO311.out)) (by decide) hg); have n2_ := am (Kd.R_after (ok := (fun k_ => some k_ ≠ (.slice Ao11 x5_5.length co11 : Value).ownBlock)) (ru HO_7.out) hg hat); have n3_ := am (hb); have n4_ := am (ho); clear HO_5; clear HO_6; clear HO_7; clear HB; clear HO311; have HO_5 := n0_; have HO_6 := n1_; have HO_7 := n2_; have HB := n3_; have HO314 := n4_; clear n0_ n1_ n2_ n3_ n4_; clear ho hb hg hat))
                                  have n0_ := am (Kd.R_drew HO_5.out)
                                  have n1_ := am (Kd.Q_drew HO_6.out)
                                  have n2_ := am (Kd.R_drew HO_7.out)
                                  have n3_ := am (Kd.R_drew HO314.out)
                                  have n4_ := am (below_drew1 HB.out)
                                  clear HO_5
                                  clear HO_6
                                  clear HO_7
                                  clear HO314
                                  clear HB
                                  have HO_5 := n0_
                                  have HO_6 := n1_
                                  have HO_7 := n2_
                                  have HO314 := n3_
                                  have HB := n4_
                                  clear n0_ n1_ n2_ n3_ n4_
                                  have p315 : 0 ≤ (x12_3 : Int) := od
                                  have q315 : x12_3 < (x7_5.length : Int) := od
                                  obtain ⟨ad315, e315, hx315_0⟩ := Kd.at_string (Kd.R_reads' HO_7.out).2.2 x12_3 p315 q315
                                  obtain rfl : ad308 = ad315 := (by injection e315)
                                  replace p315 := eq_true p315
                                  replace q315 := eq_true q315
                                  have p316 : 0 ≤ (x12_3 : Int) := od
                                  have q316 : x12_3 < (x7_5.length : Int) := od
                                  obtain ⟨ad316, e316, hx316_0⟩ := Kd.at_string (Kd.R_reads' HO_7.out).2.2 x12_3 p316 q316
                                  obtain rfl : ad308 = ad316 := (by injection e316)
                                  replace p316 := eq_true p316
                                  replace q316 := eq_true q316
                                  have p64 : 0 ≤ (x12_3 : Int) := od
                                  have q64 : (x12_3 : Int) < ((y312.length : Int) : Int) := od
                                  obtain ⟨go64, co64, eo64, gb64, gl64, cl64, HG64⟩ := Kd.R_form HO314.out (by omega)
                                  (first | cases eo64 | (injection eo64 with ea_ en_ ec_; (first | subst ea_ | (injection ea_ with ea_; subst ea_)); subst ec_; clear en_))
                                  have GB64 := am gb64
                                  have GG64 := am HG64
                                  clear gb64 gl64 HG64
                                  obtain ⟨hx64_0, hf64_0⟩ := Kd.R_celln (⟨#[]⟩ : ByteArray) HO314.out (x12_3 : Int) p64 q64
                                  replace p64 := eq_true p64
                                  replace q64 := eq_true q64
                                  have HP77 := Kd.R_putn HO314.out (x12_3 : Int) ((((rdOf ByteArray.empty x7_5 x12_3).extract 0 ((ji52) : Int).toNat) ++ ((⟨#[97, 98, 99, 100]⟩ : ByteArray).extract (x13_5 : Int).toNat ((wrap64 (x13_5 + 1)) : Int).toNat)) ++ ((rdOf ByteArray.empty x7_5 x12_3).extract ((ji59) : Int).toNat (rdOf ByteArray.empty x7_5 x12_3).size))
                                  rw [← Ny317.out] at HP77
                                  have HQ77 := am HP77
                                  clear HP77
                                  refine start_ (n := 23) (S := fun w' => w'.cell? (ad308.add (x12_3).toNat) = some (.string (rdOf ByteArray.empty x7_5 x12_3)) ∧ w'.cell? (ad308.add (x12_3).toNat) = some (.string (rdOf ByteArray.empty x7_5 x12_3))) (ds := [22]) #[F,F,F,F,F,F,F,F,F,F,F,F,F,F,F,F,F,F,F,F,F,F,F] (by kernel_rfl) rfl rfl ⟨hx315_0, hx316_0⟩ (fun hHeld => ?_); refine with_tabW laws_FnStemFill.tab21 laws_FnStemFill.bits21 (fun HT_ HW_ => ?_)
                                  generalize w75.drew = w76 at HO_5 HO_6 HO_7 HO314 HB GG64 HQ77 hf64_0 hx315_0 hx316_0 hx64_0 hHeld ⊢
                                  refine pz 0 (some 115) #[T,F,F,F,F,F,F,F,F,F,F,F,F,F,F,F,F,F,F,F,F,F,F] (any_of HT_.out (by kernel_rfl)) (h := ?_)
                                  refine pz 1 (some 116) #[T,T,F,F,F,F,F,F,F,F,F,F,F,F,F,F,F,F,F,F,F,F,F] (any_of HT_.out (by kernel_rfl)) (h := ?_)
                                  refine pz 2 (some 117) #[T,T,T,F,F,F,F,F,F,F,F,F,F,F,F,F,F,F,F,F,F,F,F] (any_of HT_.out (by kernel_rfl)) (h := ?_)
                                  refine pz 3 (some 118) #[T,T,T,T,F,F,F,F,F,F,F,F,F,F,F,F,F,F,F,F,F,F,F] (any_of HT_.out (by kernel_rfl)) (h := ?_)
                                  refine pz 4 (some 119) #[T,T,T,T,T,F,F,F,F,F,F,F,F,F,F,F,F,F,F,F,F,F,F] (any_of HT_.out (by kernel_rfl)) (h := ?_)
                                  refine pz 6 (some 121) #[T,T,T,T,T,F,T,F,F,F,F,F,F,F,F,F,F,F,F,F,F,F,F] (any_of HT_.out (by kernel_rfl)) (h := ?_)
                                  refine pz 8 (some 123) #[T,T,T,T,T,F,T,F,T,F,F,F,F,F,F,F,F,F,F,F,F,F,F] (any_of HT_.out (by kernel_rfl)) (h := ?_)
                                  refine pz 9 (some 124) #[T,T,T,T,T,F,T,F,T,T,F,F,F,F,F,F,F,F,F,F,F,F,F] (any_of HT_.out (by kernel_rfl)) (h := ?_)
                                  refine pz 10 (some 125) #[T,T,T,T,T,F,T,F,T,T,T,F,F,F,F,F,F,F,F,F,F,F,F] (any_of HT_.out (by kernel_rfl)) (h := ?_)
                                  refine pz 11 (some 126) #[T,T,T,T,T,F,T,F,T,T,T,T,F,F,F,F,F,F,F,F,F,F,F] (any_of HT_.out (by kernel_rfl)) (h := ?_)
                                  refine pz 13 (some 128) #[T,T,T,T,T,F,T,F,T,T,T,T,F,T,F,F,F,F,F,F,F,F,F] (any_of HT_.out (by kernel_rfl)) (h := ?_)
                                  refine pz 14 (some 129) #[T,T,T,T,T,F,T,F,T,T,T,T,F,T,T,F,F,F,F,F,F,F,F] (any_of HT_.out (by kernel_rfl)) (h := ?_)
                                  refine pz 15 (some 130) #[T,T,T,T,T,F,T,F,T,T,T,T,F,T,T,T,F,F,F,F,F,F,F] (any_of HT_.out (by kernel_rfl)) (h := ?_)
                                  refine pz 17 (some 132) #[T,T,T,T,T,F,T,F,T,T,T,T,F,T,T,T,F,T,F,F,F,F,F] (any_of HT_.out (by kernel_rfl)) (h := ?_)
                                  refine pz 18 (some 133) #[T,T,T,T,T,F,T,F,T,T,T,T,F,T,T,T,F,T,T,F,F,F,F] (any_of HT_.out (by kernel_rfl)) (h := ?_)
                                  refine tz hHeld 5 (some 120) #[T,T,T,T,T,T,T,F,T,T,T,T,F,T,T,T,F,T,T,F,F,F,F] (take_ofW HT_.out HW_.out (by kernel_rfl)) (h := ?_)
                                  refine pz 7 (some 122) #[T,T,T,T,T,T,T,T,T,T,T,T,F,T,T,T,F,T,T,F,F,F,F] (any_of HT_.out (by kernel_rfl)) (h := ?_)
                                  refine pz 12 (some 127) #[T,T,T,T,T,T,T,T,T,T,T,T,T,T,T,T,F,T,T,F,F,F,F] (any_of HT_.out (by kernel_rfl)) (h := ?_)
                                  refine tz hHeld 16 (some 131) #[T,T,T,T,T,T,T,T,T,T,T,T,T,T,T,T,T,T,T,F,F,F,F] (take_ofW HT_.out HW_.out (by kernel_rfl)) (h := ?_)
                                  refine pz 19 (some 134) #[T,T,T,T,T,T,T,T,T,T,T,T,T,T,T,T,T,T,T,T,F,F,F] (any_of HT_.out (by kernel_rfl)) (h := ?_)
                                  refine pz 20 (some 135) #[T,T,T,T,T,T,T,T,T,T,T,T,T,T,T,T,T,T,T,T,T,F,F] (any_of HT_.out (by kernel_rfl)) (h := ?_)
                                  refine pz 21 (some 136) #[T,T,T,T,T,T,T,T,T,T,T,T,T,T,T,T,T,T,T,T,T,T,F] (any_of HT_.out (by kernel_rfl)) (h := ?_)
                                  refine last_ (i := 22) (N := none) #[T,T,T,T,T,T,T,T,T,T,T,T,T,T,T,T,T,T,T,T,T,T,T] rfl rfl (one_of HT_.out (by kernel_rfl)) (by decide) (fun K hK => ?_)
                                  refine skip_ (w1 := ?_) (by rfl) rfl ?_ ?_
                                  rotate_left
                                  ·go_simp
                                   rfl
                                  refine hK.out _ _ ?_
                                  clear hK K
                                  refine done_ (done_of HT_.out (by kernel_rfl)) ?_
                                  try go_wp2_with (first | ((with_reducible refine gate_callee (f := 8) rfl ?_); refine goesL_ (some 139) rfl rfl Tryd.func8 (by kernel_rfl) rfl #[.slice (some ⟨go64, 0, none⟩) y317.length co64, .slice Ao12 t285.length co12] rfl (by (try simp only [List.map_toArray, List.map_cons, List.map_nil]); first | done | (rw [show y317.length = y312.length from (Kd.R_reads' HQ77.out).1.symm] <;> rfl) | rfl | (simp only [List.length_drop, List.length_take]; rfl)) ?_; (with_reducible refine (impl_StemChanges.calls kj41 _ _ y317 _ _ t285 t318 _ ?side1 ?side2 ?side3 ?side4 A65.out).mono ?_); (case side1 => refine (Kd.R_reads' (e := 9) (base := w.heap.size) (ok := fun k_ => (some k_ ≠ (.slice Ao11 x5_5.length co11 : Value).ownBlock ∧ some k_ ≠ (.slice (some ad308) x7_5.length co30 : Value).ownBlock)) (n := y312.length) (c := co64) ?_).2.2; exact (ru HQ77.out)); (case side2 => rw [show y317.length = y312.length from (Kd.R_reads' HQ77.out).1.symm]; exact (Kd.R_reads' HO314.out).2.1); (case side3 => refine (Kd.Q_reads' (e := 3) (base := w.heap.size) (ok := fun k_ => True) (n := t285.length) (c := co12) ?_).2.2; exact (by (with_reducible repeat (first | apply Kd.Q_alloc | apply Kd.Q_drewN | apply Kd.Q_drew)); exact (Kd.Q_mono (Kd.Q_far (p := ⟨go64, (x12_3 : Int).toNat, none⟩) (Kd.Q_types HO_6.out GG64.out (by decide)) (fun _ hk => hk.2) (.string ((((rdOf ByteArray.empty x7_5 x12_3).extract 0 ((ji52) : Int).toNat) ++ ((⟨#[97, 98, 99, 100]⟩ : ByteArray).extract (x13_5 : Int).toNat ((wrap64 (x13_5 + 1)) : Int).toNat)) ++ ((rdOf ByteArray.empty x7_5 x12_3).extract ((ji59) : Int).toNat (rdOf ByteArray.empty x7_5 x12_3).size)))) (fun _ h_ => h_.1)))); (case side4 => exact (Kd.Q_reads' HO_6.out).2.1); rintro e w78 ⟨rfl, hb⟩; refine ⟨_, rfl, ?_⟩; have n0_ := am (Kd.R_below (by (with_reducible repeat (first | apply Kd.R_alloc | apply Kd.R_drewN | apply Kd.R_drew)); exact (Kd.R_mono (Kd.R_far (p := ⟨go64, (x12_3 : Int).toNat, none⟩) (Kd.R_mono HO_5.out (fun k_ hk => (⟨hk, fun e_ => hk.2 (by rw [e_]; rfl)⟩ : _ ∧ k_ ≠ go64))) (fun _ hk => hk.2) (.string ((((rdOf ByteArray.empty x7_5 x12_3).extract 0 ((ji52) : Int).toNat) ++ ((⟨#[97, 98, 99, 100]⟩ : ByteArray).extract (x13_5 : Int).toNat ((wrap64 (x13_5 + 1)) : Int).toNat)) ++ ((rdOf ByteArray.empty x7_5 x12_3).extract ((ji59) : Int).toNat (rdOf ByteArray.empty x7_5 x12_3).size)))) (fun _ h_ => h_.1))) hb); have n1_ := am (Kd.Q_below (by (with_reducible repeat (first | apply Kd.Q_alloc | apply Kd.Q_drewN | apply Kd.Q_drew)); exact (Kd.Q_mono (Kd.Q_far (p := ⟨go64, (x12_3 : Int).toNat, none⟩) (Kd.Q_types HO_6.out GG64.out (by decide)) (fun _ hk => hk.2) (.string ((((rdOf ByteArray.empty x7_5 x12_3).extract 0 ((ji52) : Int).toNat) ++ ((⟨#[97, 98, 99, 100]⟩ : ByteArray).extract (x13_5 : Int).toNat ((wrap64 (x13_5 + 1)) : Int).toNat)) ++ ((rdOf ByteArray.empty x7_5 x12_3).extract ((ji59) : Int).toNat (rdOf ByteArray.empty x7_5 x12_3).size)))) (fun _ h_ => h_.1))) hb); have n2_ := am (Kd.R_below (by (with_reducible repeat (first | apply Kd.R_alloc | apply Kd.R_drewN | apply Kd.R_drew)); exact (Kd.R_mono (Kd.R_far (p := ⟨go64, (x12_3 : Int).toNat, none⟩) (Kd.R_mono HO_7.out (fun k_ hk => (⟨hk, fun e_ => hk.2 (by rw [e_]; rfl)⟩ : _ ∧ k_ ≠ go64))) (fun _ hk => hk.2) (.string ((((rdOf ByteArray.empty x7_5 x12_3).extract 0 ((ji52) : Int).toNat) ++ ((⟨#[97, 98, 99, 100]⟩ : ByteArray).extract (x13_5 : Int).toNat ((wrap64 (x13_5 + 1)) : Int).toNat)) ++ ((rdOf ByteArray.empty x7_5 x12_3).extract ((ji59) : Int).toNat (rdOf ByteArray.empty x7_5 x12_3).size)))) (fun _ h_ => h_.1))) hb); have n3_ := am (Kd.R_below (ru HQ77.out) hb); have n4_ := am (below_step (by repeat (first | (with_reducible first | exact HB.out | apply below_alloc | apply pw_below_drewN | apply below_drew1 | refine below_set ?_ GB64.out) | exact HB.out)) hb); clear HO_5; clear HO_6; clear HO_7; clear HO314; clear HB; have HO_5 := n0_; have HO_6 := n1_; have HO_7 := n2_; have HO314 := n3_; have HB := n4_; clear n0_ n1_ n2_ n3_ n4_; (try clear hb); (try clear hb2); (try clear hk); (try clear hi)))
                                  (try simp only [← hl5_5, ← hl7_5])
                                  (first | go_roundg kj41 | (subst hji52; go_roundg kj41) | (subst hji59; go_roundg kj41))
                                  case measure => have := HJ2.out; have := HJ8.out; have := HK3.out; have := HJ33.out; have := HK5.out; have := HJ41.out; omega
                                  case rel => exact ⟨(x5_5), (x7_5), (wrap64 (x13_5 + 1)), (by first | rfl | (simp; done) | (simp [*]; done)), H', ⟨by have := HJ2.out; have := HJ8.out; have := HK3.out; have := HJ33.out; have := HK5.out; have := HJ41.out; omega⟩, ⟨by (try simp only [hl5_3]); (try simp only [hl7_3]); (try simp only [hl5_5]); (try simp only [hl7_5]); (with_reducible repeat (first | apply Kd.R_alloc | apply Kd.R_drewN | apply Kd.R_drew)); exact Kd.R_mono HO_5.out (fun _ hk => hk.1)⟩, ⟨by (try simp only [hl5_3]); (try simp only [hl7_3]); (try simp only [hl5_5]); (try simp only [hl7_5]); (with_reducible repeat (first | apply Kd.Q_alloc | apply Kd.Q_drewN | apply Kd.Q_drew)); exact HO_6.out⟩, ⟨by (try simp only [hl5_3]); (try simp only [hl7_3]); (try simp only [hl5_5]); (try simp only [hl7_5]); (with_reducible repeat (first | apply Kd.R_alloc | apply Kd.R_drewN | apply Kd.R_drew)); exact Kd.R_mono HO_7.out (fun _ hk => hk.1)⟩, ⟨bu HB.out⟩⟩
                                ·rw [if_neg c63] at H
                                 exact absurd H (by simp)
                               ·rw [if_neg c62] at H
                                exact absurd H (by simp)
                              ·rw [if_neg c61] at H
                               exact absurd H (by simp)
                             ·rw [if_neg c60] at H
                              exact absurd H (by simp)
                            ·rw [if_neg c58] at H
                             exact absurd H (by simp)
                           ·rw [if_neg c57] at H
                            exact absurd H (by simp)
                          ·rw [if_neg c56] at H
                           exact absurd H (by simp)
                         ·rw [if_neg c55] at H
                          exact absurd H (by simp)
                        ·rw [if_neg c54] at H
                         exact absurd H (by simp)
                       ·rw [if_neg c53] at H
                        exact absurd H (by simp)
                      ·rw [if_neg c51] at H
                       exact absurd H (by simp)
                    ·rw [if_neg c49] at H
                     exact absurd H (by simp)
                   ·rw [if_neg c48] at H
                    exact absurd H (by simp)
                  ·replace c47 := Bool.eq_false_iff.mpr c47
                   subst c47
                   have H1 : (laws_FnStemFill.l0 kj41 l1 x5_5 t285 x7_5 t300 (wrap64 (x12_3 + 1))) = some r := by rw [if_neg (show ¬ (false = true) by decide)] at H; exact H
                   clear H
                   have H := H1
                   clear H1
                   have H' := am H
                   clear H
                   go_wp2
                   (try simp only [← hl5_3, ← hl7_3, ← hl5_5, ← hl7_5])
                   go_roundg kj41
                   case measure => have := HJ2.out; have := HJ8.out; have := HK3.out; have := HJ33.out; have := HK5.out; have := HJ41.out; omega
                   case rel => exact ⟨(x5_5), (x7_5), (wrap64 (x12_3 + 1)), (by first | rfl | (simp; done) | (simp [*]; done)), H', ⟨by have := HJ2.out; have := HJ8.out; have := HK3.out; have := HJ33.out; have := HK5.out; have := HJ41.out; omega⟩, ⟨by (try simp only [hl5_3]); (try simp only [hl7_3]); (try simp only [hl5_5]); (try simp only [hl7_5]); (with_reducible repeat (first | apply Kd.R_alloc | apply Kd.R_drewN | apply Kd.R_drew)); exact HO_5.out⟩, ⟨by (try simp only [hl5_3]); (try simp only [hl7_3]); (try simp only [hl5_5]); (try simp only [hl7_5]); (with_reducible repeat (first | apply Kd.Q_alloc | apply Kd.Q_drewN | apply Kd.Q_drew)); exact HO_6.out⟩, ⟨by (try simp only [hl5_3]); (try simp only [hl7_3]); (try simp only [hl5_5]); (try simp only [hl7_5]); (with_reducible repeat (first | apply Kd.R_alloc | apply Kd.R_drewN | apply Kd.R_drew)); exact HO_7.out⟩, ⟨bu HB.out⟩⟩
          ·rw [if_neg c33] at H
           have c33b0 : decide (x12_3 < (x5_3.length : Int)) = false := decide_eq_false c33
           clear c33
           obtain rfl := Option.some.inj H
           go_wp2
           go_ret
           exact ⟨by first | rfl | (simp [errW_none, errW_some] <;> rfl) | (simp [*, errW_none, errW_some] <;> rfl), bu HB.out⟩
       ·rw [if_neg c29] at H
        have c29b0 : (t300 == t301) = false := beq_eq_false_iff_ne.mpr c29
        have c29b1 : (t300 != t301) = true := bne_iff_ne.mpr c29
        obtain rfl := Option.some.inj H
        obtain ⟨Ao79, co79, eo79⟩ := Kd.R_slice HO_7.out
        subst eo79
        go_wp2_with (first | ((with_reducible refine gate_callee (f := 8) rfl ?_); refine goesL_ (some 64) rfl rfl Tryd.func8 (by kernel_rfl) rfl #[.slice Ao79 t290.length co79, .slice Ao12 t285.length co12] rfl (by (try simp only [List.map_toArray, List.map_cons, List.map_nil]); first | done | rfl | (simp only [List.length_drop, List.length_take]; rfl)) ?_; (with_reducible refine (impl_StemChanges.calls kj8 _ _ t290 _ _ t285 t300 _ ?side1 ?side2 ?side3 ?side4 A27.out).mono ?_); (case side1 => exact cu (Kd.R_reads' HO_7.out).2.2); (case side2 => exact (Kd.R_reads' HO_7.out).2.1); (case side3 => repeat (first | exact (Kd.Q_reads' HO_6.out).2.2 | (with_reducible refine Kd.C_alloc ?_ _) | (with_reducible refine Kd.C_drewN ?_ _) | (with_reducible refine Kd.C_drew ?_))); (case side4 => exact (Kd.Q_reads' HO_6.out).2.1); rintro e w80 ⟨rfl, hb⟩; refine ⟨_, rfl, ?_⟩; have n0_ := am (Kd.R_below (ru HO_5.out) hb); have n1_ := am (Kd.Q_below (by (with_reducible repeat (first | apply Kd.Q_alloc | apply Kd.Q_drewN | apply Kd.Q_drew)); exact HO_6.out) hb); have n2_ := am (Kd.R_below (ru HO_7.out) hb); have n3_ := am (Kd.R_below (ru HO_9.out) hb); have n4_ := am (below_step (bu HB.out) hb); clear HO_5; clear HO_6; clear HO_7; clear HO_9; clear HB; have HO_5 := n0_; have HO_6 := n1_; have HO_7 := n2_; have HO_9 := n3_; have HB := n4_; clear n0_ n1_ n2_ n3_ n4_; (try clear hb); (try clear hb2); (try clear hk); (try clear hi)) | ((with_reducible refine gate_callee (f := 9) rfl ?_); refine goesL_ (some 68) rfl rfl Tryd.func9 (by kernel_rfl) rfl #[.slice Ao11 t284.length co11, .slice Ao12 t285.length co12] rfl (by (try simp only [List.map_toArray, List.map_cons, List.map_nil]); first | done | rfl | (simp only [List.length_drop, List.length_take]; rfl)) ?_; (with_reducible refine (impl_StemFewest.calls kj8 _ _ t284 _ _ t285 t301 _ ?side1 ?side2 ?side3 ?side4 A28.out).mono ?_); (case side1 => exact cu (Kd.R_reads' HO_5.out).2.2); (case side2 => exact (Kd.R_reads' HO_5.out).2.1); (case side3 => repeat (first | exact (Kd.Q_reads' HO_6.out).2.2 | (with_reducible refine Kd.C_alloc ?_ _) | (with_reducible refine Kd.C_drewN ?_ _) | (with_reducible refine Kd.C_drew ?_))); (case side4 => exact (Kd.Q_reads' HO_6.out).2.1); rintro e w81 ⟨rfl, hb⟩; refine ⟨_, rfl, ?_⟩; have n0_ := am (Kd.R_below (ru HO_5.out) hb); have n1_ := am (Kd.Q_below (by (with_reducible repeat (first | apply Kd.Q_alloc | apply Kd.Q_drewN | apply Kd.Q_drew)); exact HO_6.out) hb); have n2_ := am (Kd.R_below (ru HO_7.out) hb); have n3_ := am (Kd.R_below (ru HO_9.out) hb); have n4_ := am (below_step (bu HB.out) hb); clear HO_5; clear HO_6; clear HO_7; clear HO_9; clear HB; have HO_5 := n0_; have HO_6 := n1_; have HO_7 := n2_; have HO_9 := n3_; have HB := n4_; clear n0_ n1_ n2_ n3_ n4_; (try clear hb); (try clear hb2); (try clear hk); (try clear hi)))
        go_ret
        exact ⟨by first | rfl | (simp [errW_none, errW_some] <;> rfl) | (simp [*, errW_none, errW_some] <;> rfl), bu HB.out⟩

end Go.Proofs.YtdodkidnblmheaaDoor.SL
