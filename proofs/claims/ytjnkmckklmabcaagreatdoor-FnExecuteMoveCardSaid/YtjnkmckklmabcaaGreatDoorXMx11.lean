-- Made by this session's gprint.py out of the translation. Not trusted: Lean checks it.
import Derived.Test.YtjnkmckklmabcaaGreatDoorXMx0
import Derived.Test.YtjnkmckklmabcaaGreatDoorXMx4
import Derived.Test.YtjnkmckklmabcaaGreatDoorXMx5
import Derived.Test.YtjnkmckklmabcaaGreatDoorXMx6
import Derived.Test.YtjnkmckklmabcaaGreatDoorXMx7
import Derived.Test.YtjnkmckklmabcaaGreatDoorXMx8
import Derived.Test.YtjnkmckklmabcaaGreatDoorXMx10
namespace Go.Proofs.YtjnkmckklmabcaaGreatDoor.XM
open Go.RowKit Go.Proofs.YtjnkmckklmabcaaGreatDoorW.PrintWords Go.Proofs.YtjnkmckklmabcaaGreatDoorW.PrintLast Go.Proofs.YtjnkmckklmabcaaGreatDoorW.PrintMore
attribute [local go_sem] max2_int min2_int max_two min_two max_three min_three max_four min_four   -- for this text's walks alone
set_option linter.unusedVariables false
set_option linter.unusedSimpArgs false

/-! ### laws_FnExecuteMove: function 7 -/
mutual
def laws_FnExecuteMove.j0 : Nat → List (S74) → Int → List (S74) → Bool → List (S74) → Bool → Bool → Option (Bool)
 | 0, _, _, _, _, _, _, _ => none
 | k + 1, x3, x4, x5, x6, x7, x8, x42 => if x42 = true then (if (x6 == x8) = true then ((laws_sameTones.f k x5 x7).bind fun t249 => (some t249)) else (some false)) else (if (x3.length : Int) = 0 then (laws_FnExecuteMove.j1 k x3 x4 x5 true) else (if x4 > 99 then (laws_FnExecuteMove.j1 k x3 x4 x5 true) else (laws_FnExecuteMove.j1 k x3 x4 x5 (decide (x4 < (-99))))))
def laws_FnExecuteMove.j1 : Nat → List (S74) → Int → List (S74) → Bool → Option (Bool)
 | 0, _, _, _, _ => none
 | k + 1, x3, x4, x5, x61 => if x61 = true then (some ((x5.length : Int) == 0)) else ((impl_MelodyText.f k x3).bind fun t250 => (if 7 + t250.size ≤ 9223372036854775807 then (if ((⟨#[109, 101, 108, 111, 100, 121, 32]⟩ : ByteArray) ++ t250).size + 6 ≤ 9223372036854775807 then ((laws_signed.f k x4).bind fun t251 => (if (((⟨#[109, 101, 108, 111, 100, 121, 32]⟩ : ByteArray) ++ t250) ++ (⟨#[10, 109, 111, 118, 101, 32]⟩ : ByteArray)).size + t251.size ≤ 9223372036854775807 then (if ((((⟨#[109, 101, 108, 111, 100, 121, 32]⟩ : ByteArray) ++ t250) ++ (⟨#[10, 109, 111, 118, 101, 32]⟩ : ByteArray)) ++ t251).size + 6 ≤ 9223372036854775807 then ((impl_Execute.f k (((((⟨#[109, 101, 108, 111, 100, 121, 32]⟩ : ByteArray) ++ t250) ++ (⟨#[10, 109, 111, 118, 101, 32]⟩ : ByteArray)) ++ t251) ++ (⟨#[10, 115, 104, 111, 119, 10]⟩ : ByteArray))).bind fun t252 => ((impl_MelodyText.f k x5).bind fun t253 => (if 13 + t253.size ≤ 9223372036854775807 then (if ((⟨#[111, 107, 10, 111, 107, 10, 109, 101, 108, 111, 100, 121, 32]⟩ : ByteArray) ++ t253).size + 1 ≤ 9223372036854775807 then ((laws_endLine.f k (x3.length : Int) 0).bind fun t254 => (if (((⟨#[111, 107, 10, 111, 107, 10, 109, 101, 108, 111, 100, 121, 32]⟩ : ByteArray) ++ t253) ++ (⟨#[10]⟩ : ByteArray)).size + t254.size ≤ 9223372036854775807 then (some (t252.toList == ((((⟨#[111, 107, 10, 111, 107, 10, 109, 101, 108, 111, 100, 121, 32]⟩ : ByteArray) ++ t253) ++ (⟨#[10]⟩ : ByteArray)) ++ t254).toList)) else (none))) else (none)) else (none)))) else (none)) else (none))) else (none)) else (none)))
end
def laws_FnExecuteMove.f (k : Nat) (l0 : List Int) : Option (Bool) := if (l0.length : Int) > 1048576 then (some true) else ((spec_DrawMelodyMove.f k l0).bind fun bt236 => ((impl_MelodyMove.f k bt236.1 bt236.2).bind fun bt240 => ((spec_MelodyMove.f k bt236.1 bt236.2).bind fun bt244 => (if (bt240.2 != bt244.2) = true then (laws_FnExecuteMove.j0 k bt236.1 bt236.2 bt240.1 bt240.2 bt244.1 bt244.2 true) else ((laws_sameTones.f k bt240.1 bt244.1).bind fun t248 => (if t248 = true then (laws_FnExecuteMove.j0 k bt236.1 bt236.2 bt240.1 bt240.2 bt244.1 bt244.2 (!bt240.2)) else (laws_FnExecuteMove.j0 k bt236.1 bt236.2 bt240.1 bt240.2 bt244.1 bt244.2 true)))))))
set_option maxHeartbeats 8000000 in
set_option maxRecDepth 100000 in
theorem laws_FnExecuteMove.calls (k : Nat) (A0 : Option Addr) (c0 : Nat) (l0 : List Int) (r : Bool) (w : World) (hr0 : Kd.C (Kd.int .u8) w A0 l0.length l0) (hc0 : l0.length ≤ c0) (hTH : TabH w) (hTL : TabL w) (hTM : TabM w) (h : laws_FnExecuteMove.f k l0 = some r) :
  Calls Tryz.prog 7 #[.slice A0 l0.length c0] w fun e w' => e = .returned (.bool r) ∧ Below w.heap.size w w' := by
 have HTH := am hTH
 clear hTH
 have HTL := am hTL
 clear hTL
 have HTM := am hTM
 clear hTM
 have HR0 := am hr0
 have HC0 := am hc0
 clear hr0 hc0
 have HB := am (Below.refl w.heap.size w)
 have H : (if (l0.length : Int) > 1048576 then (some true) else ((spec_DrawMelodyMove.f k l0).bind fun bt236 => ((impl_MelodyMove.f k bt236.1 bt236.2).bind fun bt240 => ((spec_MelodyMove.f k bt236.1 bt236.2).bind fun bt244 => (if (bt240.2 != bt244.2) = true then (laws_FnExecuteMove.j0 k bt236.1 bt236.2 bt240.1 bt240.2 bt244.1 bt244.2 true) else ((laws_sameTones.f k bt240.1 bt244.1).bind fun t248 => (if t248 = true then (laws_FnExecuteMove.j0 k bt236.1 bt236.2 bt240.1 bt240.2 bt244.1 bt244.2 (!bt240.2)) else (laws_FnExecuteMove.j0 k bt236.1 bt236.2 bt240.1 bt240.2 bt244.1 bt244.2 true)))))))) = some r := h
 clear h
 by_cases c2 : (l0.length : Int) > 1048576
 ·rw [if_pos c2] at H
  have c2b0 : decide (1048576 < (l0.length : Int)) = true := decide_eq_true c2
  have c2b1 : decide (1048576 < l0.length) = true := decide_eq_true (by omega)
  clear c2
  obtain rfl := Option.some.inj H
  go_enter Tryz.func7, Tryz.ntmps7
  go_wp2
  go_ret
  exact ⟨by first | rfl | (simp [errW_none, errW_some] <;> rfl) | (simp [*, errW_none, errW_some] <;> rfl), bu HB.out⟩
 ·rw [if_neg c2] at H
  have c2b0 : decide (1048576 < (l0.length : Int)) = false := decide_eq_false c2
  have c2b1 : decide (1048576 < l0.length) = false := decide_eq_false (by omega)
  clear c2
  replace H := Option.bind_eq_some_iff.mp H
  obtain ⟨⟨t236, t237⟩, A30, H⟩ := H
  replace H : ((impl_MelodyMove.f k t236 t237).bind fun bt240 => ((spec_MelodyMove.f k t236 t237).bind fun bt244 => (if (bt240.2 != bt244.2) = true then (laws_FnExecuteMove.j0 k t236 t237 bt240.1 bt240.2 bt244.1 bt244.2 true) else ((laws_sameTones.f k bt240.1 bt244.1).bind fun t248 => (if t248 = true then (laws_FnExecuteMove.j0 k t236 t237 bt240.1 bt240.2 bt244.1 bt244.2 (!bt240.2)) else (laws_FnExecuteMove.j0 k t236 t237 bt240.1 bt240.2 bt244.1 bt244.2 true)))))) = some r := H
  have A3 := am A30
  clear A30
  replace H := Option.bind_eq_some_iff.mp H
  obtain ⟨⟨t240, t241⟩, A40, H⟩ := H
  replace H : ((spec_MelodyMove.f k t236 t237).bind fun bt244 => (if (t241 != bt244.2) = true then (laws_FnExecuteMove.j0 k t236 t237 t240 t241 bt244.1 bt244.2 true) else ((laws_sameTones.f k t240 bt244.1).bind fun t248 => (if t248 = true then (laws_FnExecuteMove.j0 k t236 t237 t240 t241 bt244.1 bt244.2 (!t241)) else (laws_FnExecuteMove.j0 k t236 t237 t240 t241 bt244.1 bt244.2 true))))) = some r := H
  have A4 := am A40
  clear A40
  replace H := Option.bind_eq_some_iff.mp H
  obtain ⟨⟨t244, t245⟩, A50, H⟩ := H
  replace H : (if (t241 != t245) = true then (laws_FnExecuteMove.j0 k t236 t237 t240 t241 t244 t245 true) else ((laws_sameTones.f k t240 t244).bind fun t248 => (if t248 = true then (laws_FnExecuteMove.j0 k t236 t237 t240 t241 t244 t245 (!t241)) else (laws_FnExecuteMove.j0 k t236 t237 t240 t241 t244 t245 true)))) = some r := H
  have A5 := am A50
  clear A50
  have HC6 := am H
  clear H
  go_enter Tryz.func7, Tryz.ntmps7
  go_upto_region 6 with (first | ((with_reducible refine gate_callee (f := 22) rfl ?_); refine goesL_ (some 15) rfl rfl Tryz.func22 (by kernel_rfl) rfl #[.slice A0 l0.length c0] rfl (by (try simp only [List.map_toArray, List.map_cons, List.map_nil]); first | done | rfl | (simp only [List.length_drop, List.length_take]; rfl)) ?_; (with_reducible refine (spec_DrawMelodyMove.calls k _ _ l0 t236 t237 _ ?side1 ?side2 A3.out).mono ?_); (case side1 => exact cu HR0.out); (case side2 => exact HC0.out); rintro e w7 ⟨v238, rfl, ho0, hb⟩; refine ⟨_, rfl, ?_⟩; have n0_ := am (Kd.R_lower ho0 (below_size (bu HB.out))); have n1_ := am (below_step (bu HB.out) hb); clear HB; have HO239 := n0_; have HB := n1_; clear n0_ n1_; (try clear hb); (try clear hb2); (try clear hk); (try clear hi); (try clear ho0); obtain ⟨Ao8, co8, eo8⟩ := Kd.R_slice HO239.out; subst eo8) | ((with_reducible refine gate_callee (f := 23) rfl ?_); refine goesL_ (some 21) rfl rfl Tryz.func23 (by kernel_rfl) rfl #[.slice Ao8 t236.length co8, .int .i64 t237] rfl (by (try simp only [List.map_toArray, List.map_cons, List.map_nil]); first | done | rfl | (simp only [List.length_drop, List.length_take]; rfl)) ?_; (with_reducible refine (impl_MelodyMove.calls k _ _ t236 t237 t240 t241 _ ?side1 ?side2 ?side3 A4.out).mono ?_); (case side1 => exact cu (Kd.R_reads' HO239.out).2.2); (case side2 => exact (Kd.R_reads' HO239.out).2.1); (case side3 => first | exact HTH.out | exact TabAt.below HTH.out (bu HB.out)); rintro e w9 ⟨v242, rfl, ho0, hb⟩; refine ⟨_, rfl, ?_⟩; have n0_ := am (Kd.R_elder' (ru HO239.out) (Kd.R_base ho0) hb); have n1_ := am (Kd.R_lower (Kd.R_new' ho0 (Kd.R_lt (ru HO239.out))) (below_size (bu HB.out))); have n2_ := am (below_step (bu HB.out) hb); clear HO239; clear HB; have HO239 := n0_; have HO243 := n1_; have HB := n2_; clear n0_ n1_ n2_; (try clear hb); (try clear hb2); (try clear hk); (try clear hi); (try clear ho0)) | ((with_reducible refine gate_callee (f := 24) rfl ?_); refine goesL_ (some 27) rfl rfl Tryz.func24 (by kernel_rfl) rfl #[.slice Ao8 t236.length co8, .int .i64 t237] rfl (by (try simp only [List.map_toArray, List.map_cons, List.map_nil]); first | done | rfl | (simp only [List.length_drop, List.length_take]; rfl)) ?_; (with_reducible refine (spec_MelodyMove.calls k _ _ t236 t237 t244 t245 _ ?side1 ?side2 A5.out).mono ?_); (case side1 => exact cu (Kd.R_reads' HO239.out).2.2); (case side2 => exact (Kd.R_reads' HO239.out).2.1); rintro e w10 ⟨v246, rfl, ho0, hb⟩; refine ⟨_, rfl, ?_⟩; have n0_ := am (Kd.R_elder' (ru HO239.out) (Kd.R_base ho0) hb); have n1_ := am (Kd.R_elder' (ru HO243.out) (Kd.R_base ho0) hb); have n2_ := am (Kd.R_lower (Kd.R_new' (Kd.R_new' ho0 (Kd.R_lt (ru HO239.out))) (Kd.R_lt (ru HO243.out))) (below_size (bu HB.out))); have n3_ := am (below_step (bu HB.out) hb); clear HO239; clear HO243; clear HB; have HO239 := n0_; have HO243 := n1_; have HO247 := n2_; have HB := n3_; clear n0_ n1_ n2_ n3_; (try clear hb); (try clear hb2); (try clear hk); (try clear hi); (try clear ho0)))
  (try simp only [Act.put, sA, sZ, sS])
  go_cut [42] (fun v42 wc => ∃ (kq : Nat) (x42_5 : Bool), v42 = .bool x42_5 ∧ Aside0 (laws_FnExecuteMove.j0 kq t236 t237 t240 t241 t244 t245 x42_5 = some r) ∧ Aside0 (kq ≤ k) ∧ Aside0 (Kd.R k74 74 wc w.heap.size (fun k_ => some k_ ≠ (v242 : Value).ownBlock ∧ some k_ ≠ (v246 : Value).ownBlock) (.slice Ao8 t236.length co8) t236) ∧ Aside0 (Kd.R k74 74 wc w.heap.size (fun k_ => some k_ ≠ ((.slice Ao8 t236.length co8) : Value).ownBlock ∧ some k_ ≠ (v246 : Value).ownBlock) v242 t240) ∧ Aside0 (Kd.R k74 74 wc w.heap.size (fun k_ => some k_ ≠ ((.slice Ao8 t236.length co8) : Value).ownBlock ∧ some k_ ≠ (v242 : Value).ownBlock) v246 t244) ∧ Aside0 (Below w.heap.size w wc))
  case first =>
   have H := HC6.out
   clear HC6
   by_cases c11 : (t241 != t245) = true
   ·rw [if_pos c11] at H
    have c11b0 : (t241 != t245) = true := c11
    (try (have c11b1 : decide (t241 = t245) = false := by simpa using c11))
    (try (have c11b2 : (t241 == t245) = false := by simpa using c11))
    (try (have c11b3 : ¬ (t241 = t245) := by simpa using c11))
    clear c11
    (first | rw [c11b0] | (simp only [i64_w, i32_w]; rw [c11b0]) | skip)
    have H' := am H
    clear H
    go_wp2
    go_meet
    case rel => exact ⟨_, (true), (by first | rfl | (simp; done) | (simp [*]; done)), H', ⟨by first | omega | exact Nat.le_refl _⟩, ⟨by (with_reducible repeat (first | apply Kd.R_alloc | apply Kd.R_drewN | apply Kd.R_drew)); exact Kd.R_mono HO239.out (fun _ hk => ⟨hk.1.2, hk.2⟩)⟩, ⟨by (with_reducible repeat (first | apply Kd.R_alloc | apply Kd.R_drewN | apply Kd.R_drew)); exact Kd.R_mono HO243.out (fun _ hk => ⟨hk.1.2, hk.2⟩)⟩, ⟨by (with_reducible repeat (first | apply Kd.R_alloc | apply Kd.R_drewN | apply Kd.R_drew)); exact Kd.R_mono HO247.out (fun _ hk => ⟨hk.1.2, hk.2⟩)⟩, ⟨bu HB.out⟩⟩
   ·rw [if_neg c11] at H
    have c11b0 : (t241 != t245) = false := by simpa using c11
    (try (have c11b1 : decide (t241 = t245) = true := by simpa using c11))
    (try (have c11b2 : (t241 == t245) = true := by simpa using c11))
    clear c11
    (first | rw [c11b0] | (simp only [i64_w, i32_w]; rw [c11b0]) | skip)
    replace H := Option.bind_eq_some_iff.mp H
    obtain ⟨t248, A120, H⟩ := H
    replace H : (if t248 = true then (laws_FnExecuteMove.j0 k t236 t237 t240 t241 t244 t245 (!t241)) else (laws_FnExecuteMove.j0 k t236 t237 t240 t241 t244 t245 true)) = some r := H
    have A12 := am A120
    clear A120
    by_cases c13 : t248 = true
    ·subst c13
     have H1 : (laws_FnExecuteMove.j0 k t236 t237 t240 t241 t244 t245 (!t241)) = some r := by rw [if_pos rfl] at H; exact H
     clear H
     have H := H1
     clear H1
     have H' := am H
     clear H
     obtain ⟨Ao14, co14, eo14⟩ := Kd.R_slice HO243.out
     subst eo14
     obtain ⟨Ao15, co15, eo15⟩ := Kd.R_slice HO247.out
     subst eo15
     go_wp2_with (first | (go_at_call 25; (with_reducible refine (laws_sameTones.calls k _ _ t240 _ _ t244 true _ ?side1 ?side2 ?side3 ?side4 A12.out).mono ?_); (case side1 => exact cu (Kd.R_reads' HO243.out).2.2); (case side2 => exact (Kd.R_reads' HO243.out).2.1); (case side3 => exact cu (Kd.R_reads' HO247.out).2.2); (case side4 => exact (Kd.R_reads' HO247.out).2.1); rintro e w' ⟨rfl, ⟨nd, rfl⟩⟩))
     go_meet
     case rel => exact ⟨_, (!t241), (by first | rfl | (simp; done) | (simp [*]; done)), H', ⟨by first | omega | exact Nat.le_refl _⟩, ⟨by (with_reducible repeat (first | apply Kd.R_alloc | apply Kd.R_drewN | apply Kd.R_drew)); exact Kd.R_mono HO239.out (fun _ hk => ⟨hk.1.2, hk.2⟩)⟩, ⟨by (with_reducible repeat (first | apply Kd.R_alloc | apply Kd.R_drewN | apply Kd.R_drew)); exact Kd.R_mono HO243.out (fun _ hk => ⟨hk.1.2, hk.2⟩)⟩, ⟨by (with_reducible repeat (first | apply Kd.R_alloc | apply Kd.R_drewN | apply Kd.R_drew)); exact Kd.R_mono HO247.out (fun _ hk => ⟨hk.1.2, hk.2⟩)⟩, ⟨bu HB.out⟩⟩
    ·replace c13 := Bool.eq_false_iff.mpr c13
     subst c13
     have H1 : (laws_FnExecuteMove.j0 k t236 t237 t240 t241 t244 t245 true) = some r := by rw [if_neg (show ¬ (false = true) by decide)] at H; exact H
     clear H
     have H := H1
     clear H1
     have H' := am H
     clear H
     obtain ⟨Ao16, co16, eo16⟩ := Kd.R_slice HO243.out
     subst eo16
     obtain ⟨Ao17, co17, eo17⟩ := Kd.R_slice HO247.out
     subst eo17
     go_wp2_with (first | (go_at_call 25; (with_reducible refine (laws_sameTones.calls k _ _ t240 _ _ t244 false _ ?side1 ?side2 ?side3 ?side4 A12.out).mono ?_); (case side1 => exact cu (Kd.R_reads' HO243.out).2.2); (case side2 => exact (Kd.R_reads' HO243.out).2.1); (case side3 => exact cu (Kd.R_reads' HO247.out).2.2); (case side4 => exact (Kd.R_reads' HO247.out).2.1); rintro e w' ⟨rfl, ⟨nd, rfl⟩⟩))
     go_meet
     case rel => exact ⟨_, (true), (by first | rfl | (simp; done) | (simp [*]; done)), H', ⟨by first | omega | exact Nat.le_refl _⟩, ⟨by (with_reducible repeat (first | apply Kd.R_alloc | apply Kd.R_drewN | apply Kd.R_drew)); exact Kd.R_mono HO239.out (fun _ hk => ⟨hk.1.2, hk.2⟩)⟩, ⟨by (with_reducible repeat (first | apply Kd.R_alloc | apply Kd.R_drewN | apply Kd.R_drew)); exact Kd.R_mono HO243.out (fun _ hk => ⟨hk.1.2, hk.2⟩)⟩, ⟨by (with_reducible repeat (first | apply Kd.R_alloc | apply Kd.R_drewN | apply Kd.R_drew)); exact Kd.R_mono HO247.out (fun _ hk => ⟨hk.1.2, hk.2⟩)⟩, ⟨bu HB.out⟩⟩
  case rest =>
   clear HC6
   try clear c1
   try clear c2
   try clear c2b0
   try clear c2b1
   try clear p2
   try clear c7
   try clear c11
   try clear c11b0
   try clear c11b1
   try clear c11b2
   try clear c13
   obtain ⟨kq, x42_5, rfl, HA, HJ5, HO_3, HO_5, HO_7, HB⟩ := hcut
   cases kq with
   | zero => exact absurd HA.out (by simp [laws_FnExecuteMove.j0])
   | succ kj5 =>
    have H := HA.out
    clear HA
    simp only [laws_FnExecuteMove.j0] at H
    by_cases c18 : x42_5 = true
    ·subst c18
     have H1 : (if (t241 == t245) = true then ((laws_sameTones.f kj5 t240 t244).bind fun t249 => (some t249)) else (some false)) = some r := by rw [if_pos rfl] at H; exact H
     clear H
     have H := H1
     clear H1
     by_cases c19 : (t241 == t245) = true
     ·rw [if_pos c19] at H
      have c19b0 : (t241 == t245) = true := c19
      (try (have c19b1 : decide (t241 = t245) = true := by simpa using c19))
      (try (have c19b2 : (t241 == t245) = true := by simpa using c19))
      clear c19
      replace H := Option.bind_eq_some_iff.mp H
      obtain ⟨t249, A200, H⟩ := H
      replace H : (some t249) = some r := H
      have A20 := am A200
      clear A200
      obtain rfl := Option.some.inj H
      obtain ⟨Ao21, co21, eo21⟩ := Kd.R_slice HO_5.out
      subst eo21
      obtain ⟨Ao22, co22, eo22⟩ := Kd.R_slice HO_7.out
      subst eo22
      go_wp2_with (first | (go_at_call 25; (with_reducible refine (laws_sameTones.calls kj5 _ _ t240 _ _ t244 t249 _ ?side1 ?side2 ?side3 ?side4 A20.out).mono ?_); (case side1 => exact cu (Kd.R_reads' HO_5.out).2.2); (case side2 => exact (Kd.R_reads' HO_5.out).2.1); (case side3 => exact cu (Kd.R_reads' HO_7.out).2.2); (case side4 => exact (Kd.R_reads' HO_7.out).2.1); rintro e w' ⟨rfl, ⟨nd, rfl⟩⟩))
      go_ret
      exact ⟨by first | rfl | (simp [errW_none, errW_some] <;> rfl) | (simp [*, errW_none, errW_some] <;> rfl), bu HB.out⟩
     ·rw [if_neg c19] at H
      have c19b0 : (t241 == t245) = false := by simpa using c19
      (try (have c19b1 : decide (t241 = t245) = false := by simpa using c19))
      (try (have c19b2 : (t241 == t245) = false := by simpa using c19))
      (try (have c19b3 : ¬ (t241 = t245) := by simpa using c19))
      clear c19
      obtain rfl := Option.some.inj H
      go_wp2
      go_ret
      exact ⟨by first | rfl | (simp [errW_none, errW_some] <;> rfl) | (simp [*, errW_none, errW_some] <;> rfl), bu HB.out⟩
    ·replace c18 := Bool.eq_false_iff.mpr c18
     subst c18
     have H1 : (if (t236.length : Int) = 0 then (laws_FnExecuteMove.j1 kj5 t236 t237 t240 true) else (if t237 > 99 then (laws_FnExecuteMove.j1 kj5 t236 t237 t240 true) else (laws_FnExecuteMove.j1 kj5 t236 t237 t240 (decide (t237 < (-99)))))) = some r := by rw [if_neg (show ¬ (false = true) by decide)] at H; exact H
     clear H
     have H := H1
     clear H1
     have HC23 := am H
     clear H
     go_upto_region 8 with (fail)
     go_cut [61] (fun v61 wc => ∃ (kq : Nat) (x61_22 : Bool), v61 = .bool x61_22 ∧ Aside0 (laws_FnExecuteMove.j1 kq t236 t237 t240 x61_22 = some r) ∧ Aside0 (kq ≤ kj5) ∧ Aside0 (Kd.R k74 74 wc w.heap.size (fun k_ => some k_ ≠ (v242 : Value).ownBlock) (.slice Ao8 t236.length co8) t236) ∧ Aside0 (Kd.R k74 74 wc w.heap.size (fun k_ => some k_ ≠ ((.slice Ao8 t236.length co8) : Value).ownBlock) v242 t240) ∧ Aside0 (Below w.heap.size w wc))
     case first =>
      have H := HC23.out
      clear HC23
      by_cases c24 : (t236.length : Int) = 0
      ·rw [if_pos c24] at H
       have c24b0 : ((t236.length : Int) == 0) = true := beq_iff_eq.mpr c24
       have c24b1 : ((t236.length : Int) != 0) = false := bne_eq_false_iff_eq.mpr c24
       clear c24
       (first | rw [c24b0] | (simp only [i64_w, i32_w]; rw [c24b0]) | skip)
       have H' := am H
       clear H
       go_wp2
       go_meet
       case rel => exact ⟨_, (true), (by first | rfl | (simp; done) | (simp [*]; done)), H', ⟨by have := HJ5.out; first | omega | exact Nat.le_refl _⟩, ⟨by (with_reducible repeat (first | apply Kd.R_alloc | apply Kd.R_drewN | apply Kd.R_drew)); exact Kd.R_mono HO_3.out (fun _ hk => hk.1)⟩, ⟨by (with_reducible repeat (first | apply Kd.R_alloc | apply Kd.R_drewN | apply Kd.R_drew)); exact Kd.R_mono HO_5.out (fun _ hk => hk.1)⟩, ⟨bu HB.out⟩⟩
      ·rw [if_neg c24] at H
       have c24b0 : ((t236.length : Int) == 0) = false := beq_eq_false_iff_ne.mpr c24
       have c24b1 : ((t236.length : Int) != 0) = true := bne_iff_ne.mpr c24
       have c24b2 : ¬ (t236 = []) := fun h_ => c24 (by rw [h_]; rfl)
       (first | rw [c24b0] | (simp only [i64_w, i32_w]; rw [c24b0]) | skip)
       by_cases c25 : t237 > 99
       ·rw [if_pos c25] at H
        have c25b0 : decide (99 < t237) = true := decide_eq_true c25
        clear c25
        have H' := am H
        clear H
        go_wp2
        go_meet
        case rel => exact ⟨_, (true), (by first | rfl | (simp; done) | (simp [*]; done)), H', ⟨by have := HJ5.out; first | omega | exact Nat.le_refl _⟩, ⟨by (with_reducible repeat (first | apply Kd.R_alloc | apply Kd.R_drewN | apply Kd.R_drew)); exact Kd.R_mono HO_3.out (fun _ hk => hk.1)⟩, ⟨by (with_reducible repeat (first | apply Kd.R_alloc | apply Kd.R_drewN | apply Kd.R_drew)); exact Kd.R_mono HO_5.out (fun _ hk => hk.1)⟩, ⟨bu HB.out⟩⟩
       ·rw [if_neg c25] at H
        have c25b0 : decide (99 < t237) = false := decide_eq_false c25
        clear c25
        have H' := am H
        clear H
        go_wp2
        go_meet
        case rel => exact ⟨_, (decide (t237 < (-99))), (by first | rfl | (simp; done) | (simp [*]; done)), H', ⟨by have := HJ5.out; first | omega | exact Nat.le_refl _⟩, ⟨by (with_reducible repeat (first | apply Kd.R_alloc | apply Kd.R_drewN | apply Kd.R_drew)); exact Kd.R_mono HO_3.out (fun _ hk => hk.1)⟩, ⟨by (with_reducible repeat (first | apply Kd.R_alloc | apply Kd.R_drewN | apply Kd.R_drew)); exact Kd.R_mono HO_5.out (fun _ hk => hk.1)⟩, ⟨bu HB.out⟩⟩
     case rest =>
      clear HC23
      try clear c1
      try clear c2
      try clear c2b0
      try clear c2b1
      try clear p2
      try clear c7
      try clear c11
      try clear c11b0
      try clear c11b1
      try clear c11b2
      try clear c13
      try clear c18
      try clear c19
      try clear c19b0
      try clear c19b1
      try clear c19b2
      try clear c22
      try clear c23
      try clear c24
      try clear c24b0
      try clear c24b1
      try clear c24b2
      try clear c25
      try clear c25b0
      try clear p2
      obtain ⟨kq, x61_22, rfl, HA, HJ22, HO_3, HO_5, HB⟩ := hcut
      cases kq with
      | zero => exact absurd HA.out (by simp [laws_FnExecuteMove.j1])
      | succ kj22 =>
       have H := HA.out
       clear HA
       simp only [laws_FnExecuteMove.j1] at H
       by_cases c26 : x61_22 = true
       ·subst c26
        have H1 : (some ((t240.length : Int) == 0)) = some r := by rw [if_pos rfl] at H; exact H
        clear H
        have H := H1
        clear H1
        obtain rfl := Option.some.inj H
        obtain ⟨Ao27, co27, eo27⟩ := Kd.R_slice HO_5.out
        subst eo27
        go_wp2
        go_ret
        exact ⟨by first | rfl | (simp [errW_none, errW_some] <;> rfl) | (simp [*, errW_none, errW_some] <;> rfl), bu HB.out⟩
       ·replace c26 := Bool.eq_false_iff.mpr c26
        subst c26
        have H1 : ((impl_MelodyText.f kj22 t236).bind fun t250 => (if 7 + t250.size ≤ 9223372036854775807 then (if ((⟨#[109, 101, 108, 111, 100, 121, 32]⟩ : ByteArray) ++ t250).size + 6 ≤ 9223372036854775807 then ((laws_signed.f kj22 t237).bind fun t251 => (if (((⟨#[109, 101, 108, 111, 100, 121, 32]⟩ : ByteArray) ++ t250) ++ (⟨#[10, 109, 111, 118, 101, 32]⟩ : ByteArray)).size + t251.size ≤ 9223372036854775807 then (if ((((⟨#[109, 101, 108, 111, 100, 121, 32]⟩ : ByteArray) ++ t250) ++ (⟨#[10, 109, 111, 118, 101, 32]⟩ : ByteArray)) ++ t251).size + 6 ≤ 9223372036854775807 then ((impl_Execute.f kj22 (((((⟨#[109, 101, 108, 111, 100, 121, 32]⟩ : ByteArray) ++ t250) ++ (⟨#[10, 109, 111, 118, 101, 32]⟩ : ByteArray)) ++ t251) ++ (⟨#[10, 115, 104, 111, 119, 10]⟩ : ByteArray))).bind fun t252 => ((impl_MelodyText.f kj22 t240).bind fun t253 => (if 13 + t253.size ≤ 9223372036854775807 then (if ((⟨#[111, 107, 10, 111, 107, 10, 109, 101, 108, 111, 100, 121, 32]⟩ : ByteArray) ++ t253).size + 1 ≤ 9223372036854775807 then ((laws_endLine.f kj22 (t236.length : Int) 0).bind fun t254 => (if (((⟨#[111, 107, 10, 111, 107, 10, 109, 101, 108, 111, 100, 121, 32]⟩ : ByteArray) ++ t253) ++ (⟨#[10]⟩ : ByteArray)).size + t254.size ≤ 9223372036854775807 then (some (t252.toList == ((((⟨#[111, 107, 10, 111, 107, 10, 109, 101, 108, 111, 100, 121, 32]⟩ : ByteArray) ++ t253) ++ (⟨#[10]⟩ : ByteArray)) ++ t254).toList)) else (none))) else (none)) else (none)))) else (none)) else (none))) else (none)) else (none))) = some r := by rw [if_neg (show ¬ (false = true) by decide)] at H; exact H
        clear H
        have H := H1
        clear H1
        replace H := Option.bind_eq_some_iff.mp H
        obtain ⟨t250, A280, H⟩ := H
        replace H : (if 7 + t250.size ≤ 9223372036854775807 then (if ((⟨#[109, 101, 108, 111, 100, 121, 32]⟩ : ByteArray) ++ t250).size + 6 ≤ 9223372036854775807 then ((laws_signed.f kj22 t237).bind fun t251 => (if (((⟨#[109, 101, 108, 111, 100, 121, 32]⟩ : ByteArray) ++ t250) ++ (⟨#[10, 109, 111, 118, 101, 32]⟩ : ByteArray)).size + t251.size ≤ 9223372036854775807 then (if ((((⟨#[109, 101, 108, 111, 100, 121, 32]⟩ : ByteArray) ++ t250) ++ (⟨#[10, 109, 111, 118, 101, 32]⟩ : ByteArray)) ++ t251).size + 6 ≤ 9223372036854775807 then ((impl_Execute.f kj22 (((((⟨#[109, 101, 108, 111, 100, 121, 32]⟩ : ByteArray) ++ t250) ++ (⟨#[10, 109, 111, 118, 101, 32]⟩ : ByteArray)) ++ t251) ++ (⟨#[10, 115, 104, 111, 119, 10]⟩ : ByteArray))).bind fun t252 => ((impl_MelodyText.f kj22 t240).bind fun t253 => (if 13 + t253.size ≤ 9223372036854775807 then (if ((⟨#[111, 107, 10, 111, 107, 10, 109, 101, 108, 111, 100, 121, 32]⟩ : ByteArray) ++ t253).size + 1 ≤ 9223372036854775807 then ((laws_endLine.f kj22 (t236.length : Int) 0).bind fun t254 => (if (((⟨#[111, 107, 10, 111, 107, 10, 109, 101, 108, 111, 100, 121, 32]⟩ : ByteArray) ++ t253) ++ (⟨#[10]⟩ : ByteArray)).size + t254.size ≤ 9223372036854775807 then (some (t252.toList == ((((⟨#[111, 107, 10, 111, 107, 10, 109, 101, 108, 111, 100, 121, 32]⟩ : ByteArray) ++ t253) ++ (⟨#[10]⟩ : ByteArray)) ++ t254).toList)) else (none))) else (none)) else (none)))) else (none)) else (none))) else (none)) else (none)) = some r := H
        have A28 := am A280
        clear A280
        by_cases c29 : 7 + t250.size ≤ 9223372036854775807
        ·rw [if_pos c29] at H
         have c29b0 := eq_true c29
         have c29b1 : decide (7 + t250.size ≤ 9223372036854775807) = true := decide_eq_true c29
         try have c29b2 : (9223372036854775807 < 7 + t250.size) = False := eq_false (Nat.not_lt.2 c29)
         by_cases c30 : ((⟨#[109, 101, 108, 111, 100, 121, 32]⟩ : ByteArray) ++ t250).size + 6 ≤ 9223372036854775807
         ·rw [if_pos c30] at H
          have c30b0 := eq_true c30
          have c30b1 : decide (((⟨#[109, 101, 108, 111, 100, 121, 32]⟩ : ByteArray) ++ t250).size + 6 ≤ 9223372036854775807) = true := decide_eq_true c30
          try have c30b2 : (9223372036854775807 < ((⟨#[109, 101, 108, 111, 100, 121, 32]⟩ : ByteArray) ++ t250).size + 6) = False := eq_false (Nat.not_lt.2 c30)
          try have c30b4 : (9223372036854775807 < 7 + t250.size + 6) = False := eq_false (by have h_ := c30; simp only [ByteArray.size_append] at h_; have e0_ : (⟨#[109, 101, 108, 111, 100, 121, 32]⟩ : ByteArray).size = 7 := rfl; omega)
          replace H := Option.bind_eq_some_iff.mp H
          obtain ⟨t251, A310, H⟩ := H
          replace H : (if (((⟨#[109, 101, 108, 111, 100, 121, 32]⟩ : ByteArray) ++ t250) ++ (⟨#[10, 109, 111, 118, 101, 32]⟩ : ByteArray)).size + t251.size ≤ 9223372036854775807 then (if ((((⟨#[109, 101, 108, 111, 100, 121, 32]⟩ : ByteArray) ++ t250) ++ (⟨#[10, 109, 111, 118, 101, 32]⟩ : ByteArray)) ++ t251).size + 6 ≤ 9223372036854775807 then ((impl_Execute.f kj22 (((((⟨#[109, 101, 108, 111, 100, 121, 32]⟩ : ByteArray) ++ t250) ++ (⟨#[10, 109, 111, 118, 101, 32]⟩ : ByteArray)) ++ t251) ++ (⟨#[10, 115, 104, 111, 119, 10]⟩ : ByteArray))).bind fun t252 => ((impl_MelodyText.f kj22 t240).bind fun t253 => (if 13 + t253.size ≤ 9223372036854775807 then (if ((⟨#[111, 107, 10, 111, 107, 10, 109, 101, 108, 111, 100, 121, 32]⟩ : ByteArray) ++ t253).size + 1 ≤ 9223372036854775807 then ((laws_endLine.f kj22 (t236.length : Int) 0).bind fun t254 => (if (((⟨#[111, 107, 10, 111, 107, 10, 109, 101, 108, 111, 100, 121, 32]⟩ : ByteArray) ++ t253) ++ (⟨#[10]⟩ : ByteArray)).size + t254.size ≤ 9223372036854775807 then (some (t252.toList == ((((⟨#[111, 107, 10, 111, 107, 10, 109, 101, 108, 111, 100, 121, 32]⟩ : ByteArray) ++ t253) ++ (⟨#[10]⟩ : ByteArray)) ++ t254).toList)) else (none))) else (none)) else (none)))) else (none)) else (none)) = some r := H
          have A31 := am A310
          clear A310
          by_cases c32 : (((⟨#[109, 101, 108, 111, 100, 121, 32]⟩ : ByteArray) ++ t250) ++ (⟨#[10, 109, 111, 118, 101, 32]⟩ : ByteArray)).size + t251.size ≤ 9223372036854775807
          ·rw [if_pos c32] at H
           have c32b0 := eq_true c32
           have c32b1 : decide ((((⟨#[109, 101, 108, 111, 100, 121, 32]⟩ : ByteArray) ++ t250) ++ (⟨#[10, 109, 111, 118, 101, 32]⟩ : ByteArray)).size + t251.size ≤ 9223372036854775807) = true := decide_eq_true c32
           try have c32b2 : (9223372036854775807 < (((⟨#[109, 101, 108, 111, 100, 121, 32]⟩ : ByteArray) ++ t250) ++ (⟨#[10, 109, 111, 118, 101, 32]⟩ : ByteArray)).size + t251.size) = False := eq_false (Nat.not_lt.2 c32)
           try have c32b4 : (9223372036854775807 < 7 + t250.size + 6 + t251.size) = False := eq_false (by have h_ := c32; simp only [ByteArray.size_append] at h_; have e0_ : (⟨#[109, 101, 108, 111, 100, 121, 32]⟩ : ByteArray).size = 7 := rfl; have e1_ : (⟨#[10, 109, 111, 118, 101, 32]⟩ : ByteArray).size = 6 := rfl; omega)
           by_cases c33 : ((((⟨#[109, 101, 108, 111, 100, 121, 32]⟩ : ByteArray) ++ t250) ++ (⟨#[10, 109, 111, 118, 101, 32]⟩ : ByteArray)) ++ t251).size + 6 ≤ 9223372036854775807
           ·rw [if_pos c33] at H
            have c33b0 := eq_true c33
            have c33b1 : decide (((((⟨#[109, 101, 108, 111, 100, 121, 32]⟩ : ByteArray) ++ t250) ++ (⟨#[10, 109, 111, 118, 101, 32]⟩ : ByteArray)) ++ t251).size + 6 ≤ 9223372036854775807) = true := decide_eq_true c33
            try have c33b2 : (9223372036854775807 < ((((⟨#[109, 101, 108, 111, 100, 121, 32]⟩ : ByteArray) ++ t250) ++ (⟨#[10, 109, 111, 118, 101, 32]⟩ : ByteArray)) ++ t251).size + 6) = False := eq_false (Nat.not_lt.2 c33)
            try have c33b4 : (9223372036854775807 < 7 + t250.size + 6 + t251.size + 6) = False := eq_false (by have h_ := c33; simp only [ByteArray.size_append] at h_; have e0_ : (⟨#[109, 101, 108, 111, 100, 121, 32]⟩ : ByteArray).size = 7 := rfl; have e1_ : (⟨#[10, 109, 111, 118, 101, 32]⟩ : ByteArray).size = 6 := rfl; omega)
            replace H := Option.bind_eq_some_iff.mp H
            obtain ⟨t252, A340, H⟩ := H
            replace H : ((impl_MelodyText.f kj22 t240).bind fun t253 => (if 13 + t253.size ≤ 9223372036854775807 then (if ((⟨#[111, 107, 10, 111, 107, 10, 109, 101, 108, 111, 100, 121, 32]⟩ : ByteArray) ++ t253).size + 1 ≤ 9223372036854775807 then ((laws_endLine.f kj22 (t236.length : Int) 0).bind fun t254 => (if (((⟨#[111, 107, 10, 111, 107, 10, 109, 101, 108, 111, 100, 121, 32]⟩ : ByteArray) ++ t253) ++ (⟨#[10]⟩ : ByteArray)).size + t254.size ≤ 9223372036854775807 then (some (t252.toList == ((((⟨#[111, 107, 10, 111, 107, 10, 109, 101, 108, 111, 100, 121, 32]⟩ : ByteArray) ++ t253) ++ (⟨#[10]⟩ : ByteArray)) ++ t254).toList)) else (none))) else (none)) else (none))) = some r := H
            have A34 := am A340
            clear A340
            replace H := Option.bind_eq_some_iff.mp H
            obtain ⟨t253, A350, H⟩ := H
            replace H : (if 13 + t253.size ≤ 9223372036854775807 then (if ((⟨#[111, 107, 10, 111, 107, 10, 109, 101, 108, 111, 100, 121, 32]⟩ : ByteArray) ++ t253).size + 1 ≤ 9223372036854775807 then ((laws_endLine.f kj22 (t236.length : Int) 0).bind fun t254 => (if (((⟨#[111, 107, 10, 111, 107, 10, 109, 101, 108, 111, 100, 121, 32]⟩ : ByteArray) ++ t253) ++ (⟨#[10]⟩ : ByteArray)).size + t254.size ≤ 9223372036854775807 then (some (t252.toList == ((((⟨#[111, 107, 10, 111, 107, 10, 109, 101, 108, 111, 100, 121, 32]⟩ : ByteArray) ++ t253) ++ (⟨#[10]⟩ : ByteArray)) ++ t254).toList)) else (none))) else (none)) else (none)) = some r := H
            have A35 := am A350
            clear A350
            by_cases c36 : 13 + t253.size ≤ 9223372036854775807
            ·rw [if_pos c36] at H
             have c36b0 := eq_true c36
             have c36b1 : decide (13 + t253.size ≤ 9223372036854775807) = true := decide_eq_true c36
             try have c36b2 : (9223372036854775807 < 13 + t253.size) = False := eq_false (Nat.not_lt.2 c36)
             by_cases c37 : ((⟨#[111, 107, 10, 111, 107, 10, 109, 101, 108, 111, 100, 121, 32]⟩ : ByteArray) ++ t253).size + 1 ≤ 9223372036854775807
             ·rw [if_pos c37] at H
              have c37b0 := eq_true c37
              have c37b1 : decide (((⟨#[111, 107, 10, 111, 107, 10, 109, 101, 108, 111, 100, 121, 32]⟩ : ByteArray) ++ t253).size + 1 ≤ 9223372036854775807) = true := decide_eq_true c37
              try have c37b2 : (9223372036854775807 < ((⟨#[111, 107, 10, 111, 107, 10, 109, 101, 108, 111, 100, 121, 32]⟩ : ByteArray) ++ t253).size + 1) = False := eq_false (Nat.not_lt.2 c37)
              try have c37b4 : (9223372036854775807 < 13 + t253.size + 1) = False := eq_false (by have h_ := c37; simp only [ByteArray.size_append] at h_; have e0_ : (⟨#[111, 107, 10, 111, 107, 10, 109, 101, 108, 111, 100, 121, 32]⟩ : ByteArray).size = 13 := rfl; omega)
              replace H := Option.bind_eq_some_iff.mp H
              obtain ⟨t254, A380, H⟩ := H
              replace H : (if (((⟨#[111, 107, 10, 111, 107, 10, 109, 101, 108, 111, 100, 121, 32]⟩ : ByteArray) ++ t253) ++ (⟨#[10]⟩ : ByteArray)).size + t254.size ≤ 9223372036854775807 then (some (t252.toList == ((((⟨#[111, 107, 10, 111, 107, 10, 109, 101, 108, 111, 100, 121, 32]⟩ : ByteArray) ++ t253) ++ (⟨#[10]⟩ : ByteArray)) ++ t254).toList)) else (none)) = some r := H
              have A38 := am A380
              clear A380
              by_cases c39 : (((⟨#[111, 107, 10, 111, 107, 10, 109, 101, 108, 111, 100, 121, 32]⟩ : ByteArray) ++ t253) ++ (⟨#[10]⟩ : ByteArray)).size + t254.size ≤ 9223372036854775807
              ·rw [if_pos c39] at H
               have c39b0 := eq_true c39
               have c39b1 : decide ((((⟨#[111, 107, 10, 111, 107, 10, 109, 101, 108, 111, 100, 121, 32]⟩ : ByteArray) ++ t253) ++ (⟨#[10]⟩ : ByteArray)).size + t254.size ≤ 9223372036854775807) = true := decide_eq_true c39
               try have c39b2 : (9223372036854775807 < (((⟨#[111, 107, 10, 111, 107, 10, 109, 101, 108, 111, 100, 121, 32]⟩ : ByteArray) ++ t253) ++ (⟨#[10]⟩ : ByteArray)).size + t254.size) = False := eq_false (Nat.not_lt.2 c39)
               try have c39b4 : (9223372036854775807 < 13 + t253.size + 1 + t254.size) = False := eq_false (by have h_ := c39; simp only [ByteArray.size_append] at h_; have e0_ : (⟨#[111, 107, 10, 111, 107, 10, 109, 101, 108, 111, 100, 121, 32]⟩ : ByteArray).size = 13 := rfl; have e1_ : (⟨#[10]⟩ : ByteArray).size = 1 := rfl; omega)
               obtain rfl := Option.some.inj H
               go_wp2_with (first | ((with_reducible refine gate_callee (f := 26) rfl ?_); refine goesL_ (some 66) rfl rfl Tryz.func26 (by kernel_rfl) rfl #[.slice Ao8 t236.length co8] rfl (by (try simp only [List.map_toArray, List.map_cons, List.map_nil]); first | done | rfl | (simp only [List.length_drop, List.length_take]; rfl)) ?_; (with_reducible refine (impl_MelodyText.calls kj22 _ _ t236 t250 _ ?side1 ?side2 ?side3 A28.out).mono ?_); (case side1 => exact cu (Kd.R_reads' HO_3.out).2.2); (case side2 => exact (Kd.R_reads' HO_3.out).2.1); (case side3 => first | exact HTL.out | exact TabAt.below HTL.out (bu HB.out)); rintro e w40 ⟨rfl, hb⟩; refine ⟨_, rfl, ?_⟩; have n0_ := am (Kd.R_below (ru HO_3.out) hb); have n1_ := am (Kd.R_below (ru HO_5.out) hb); have n2_ := am (below_step (bu HB.out) hb); clear HO_3; clear HO_5; clear HB; have HO_3 := n0_; have HO_5 := n1_; have HB := n2_; clear n0_ n1_ n2_; (try clear hb); (try clear hb2); (try clear hk); (try clear hi)) | ((with_reducible refine gate_callee (f := 27) rfl ?_); refine goesL_ (some 70) rfl rfl Tryz.func27 (by kernel_rfl) rfl #[.int .i64 t237] rfl (by (try simp only [List.map_toArray, List.map_cons, List.map_nil]); first | done | rfl | (simp only [List.length_drop, List.length_take]; rfl)) ?_; (with_reducible refine (laws_signed.calls kj22 t237 t251 _ A31.out).mono ?_); rintro e w41 ⟨rfl, hb⟩; refine ⟨_, rfl, ?_⟩; have n0_ := am (Kd.R_below (ru HO_3.out) hb); have n1_ := am (Kd.R_below (ru HO_5.out) hb); have n2_ := am (below_step (bu HB.out) hb); clear HO_3; clear HO_5; clear HB; have HO_3 := n0_; have HO_5 := n1_; have HB := n2_; clear n0_ n1_ n2_; (try clear hb); (try clear hb2); (try clear hk); (try clear hi)) | ((with_reducible refine gate_callee (f := 12) rfl ?_); refine goesL_ (some 73) rfl rfl Tryz.func12 (by kernel_rfl) rfl #[.string (((((⟨#[109, 101, 108, 111, 100, 121, 32]⟩ : ByteArray) ++ t250) ++ (⟨#[10, 109, 111, 118, 101, 32]⟩ : ByteArray)) ++ t251) ++ (⟨#[10, 115, 104, 111, 119, 10]⟩ : ByteArray))] rfl (by (try simp only [List.map_toArray, List.map_cons, List.map_nil]); first | done | rfl | (simp only [List.length_drop, List.length_take]; rfl)) ?_; (with_reducible refine (impl_Execute.calls kj22 (((((⟨#[109, 101, 108, 111, 100, 121, 32]⟩ : ByteArray) ++ t250) ++ (⟨#[10, 109, 111, 118, 101, 32]⟩ : ByteArray)) ++ t251) ++ (⟨#[10, 115, 104, 111, 119, 10]⟩ : ByteArray)) t252 _ ?side1 ?side2 ?side3 A34.out).mono ?_); (case side1 => first | exact HTH.out | exact TabAt.below HTH.out (bu HB.out)); (case side2 => first | exact HTL.out | exact TabAt.below HTL.out (bu HB.out)); (case side3 => first | exact HTM.out | exact TabAt.below HTM.out (bu HB.out) | exact TabM.below HTM.out (bu HB.out) | (repeat (first | exact HTM.out | (with_reducible refine TabAt.drewN ?_ _) | (with_reducible refine TabAt.drew ?_) | (with_reducible refine TabAt.alloc ?_ _)))); rintro e w42 ⟨rfl, hb⟩; refine ⟨_, rfl, ?_⟩; have n0_ := am (Kd.R_below (ru HO_3.out) hb); have n1_ := am (Kd.R_below (ru HO_5.out) hb); have n2_ := am (below_step (bu HB.out) hb); clear HO_3; clear HO_5; clear HB; have HO_3 := n0_; have HO_5 := n1_; have HB := n2_; clear n0_ n1_ n2_; (try clear hb); (try clear hb2); (try clear hk); (try clear hi); obtain ⟨Ao43, co43, eo43⟩ := Kd.R_slice HO_5.out; subst eo43) | ((with_reducible refine gate_callee (f := 26) rfl ?_); refine goesL_ (some 76) rfl rfl Tryz.func26 (by kernel_rfl) rfl #[.slice Ao43 t240.length co43] rfl (by (try simp only [List.map_toArray, List.map_cons, List.map_nil]); first | done | rfl | (simp only [List.length_drop, List.length_take]; rfl)) ?_; (with_reducible refine (impl_MelodyText.calls kj22 _ _ t240 t253 _ ?side1 ?side2 ?side3 A35.out).mono ?_); (case side1 => exact cu (Kd.R_reads' HO_5.out).2.2); (case side2 => exact (Kd.R_reads' HO_5.out).2.1); (case side3 => first | exact HTL.out | exact TabAt.below HTL.out (bu HB.out)); rintro e w44 ⟨rfl, hb⟩; refine ⟨_, rfl, ?_⟩; have n0_ := am (Kd.R_below (ru HO_3.out) hb); have n1_ := am (Kd.R_below (ru HO_5.out) hb); have n2_ := am (below_step (bu HB.out) hb); clear HO_3; clear HO_5; clear HB; have HO_3 := n0_; have HO_5 := n1_; have HB := n2_; clear n0_ n1_ n2_; (try clear hb); (try clear hb2); (try clear hk); (try clear hi)) | ((with_reducible refine gate_callee (f := 21) rfl ?_); refine goesL_ (some 81) rfl rfl Tryz.func21 (by kernel_rfl) rfl #[.int .i64 (t236.length : Int), .int .i64 0] rfl (by (try simp only [List.map_toArray, List.map_cons, List.map_nil]); first | done | rfl | (simp only [List.length_drop, List.length_take]; rfl)) ?_; (with_reducible refine (laws_endLine.calls kj22 (t236.length : Int) 0 t254 _ A38.out).mono ?_); rintro e w45 ⟨rfl, hb⟩; refine ⟨_, rfl, ?_⟩; have n0_ := am (Kd.R_below (ru HO_3.out) hb); have n1_ := am (Kd.R_below (ru HO_5.out) hb); have n2_ := am (below_step (bu HB.out) hb); clear HO_3; clear HO_5; clear HB; have HO_3 := n0_; have HO_5 := n1_; have HB := n2_; clear n0_ n1_ n2_; (try clear hb); (try clear hb2); (try clear hk); (try clear hi)))
               go_ret
               exact ⟨by first | rfl | (simp [errW_none, errW_some] <;> rfl) | (simp [*, errW_none, errW_some] <;> rfl), bu HB.out⟩
              ·rw [if_neg c39] at H
               exact absurd H (by simp)
             ·rw [if_neg c37] at H
              exact absurd H (by simp)
            ·rw [if_neg c36] at H
             exact absurd H (by simp)
           ·rw [if_neg c33] at H
            exact absurd H (by simp)
          ·rw [if_neg c32] at H
           exact absurd H (by simp)
         ·rw [if_neg c30] at H
          exact absurd H (by simp)
        ·rw [if_neg c29] at H
         exact absurd H (by simp)

end Go.Proofs.YtjnkmckklmabcaaGreatDoor.XM
