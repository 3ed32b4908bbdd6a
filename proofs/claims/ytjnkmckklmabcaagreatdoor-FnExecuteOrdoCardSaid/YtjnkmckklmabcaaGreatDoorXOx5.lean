-- Made by this session's gprint.py out of the translation. Not trusted: Lean checks it.
import Derived.Test.YtjnkmckklmabcaaGreatDoorXOx0
import Derived.Test.YtjnkmckklmabcaaGreatDoorXOx1
import Derived.Test.YtjnkmckklmabcaaGreatDoorXOx3
import Derived.Test.YtjnkmckklmabcaaGreatDoorXOx4
namespace Go.Proofs.YtjnkmckklmabcaaGreatDoor.XO
open Go.RowKit Go.Proofs.YtjnkmckklmabcaaGreatDoorW.PrintWords Go.Proofs.YtjnkmckklmabcaaGreatDoorW.PrintLast Go.Proofs.YtjnkmckklmabcaaGreatDoorW.PrintMore
attribute [local go_sem] max2_int min2_int max_two min_two max_three min_three max_four min_four   -- for this text's walks alone
set_option linter.unusedVariables false
set_option linter.unusedSimpArgs false

/-! ### laws_FnExecuteOrdo: function 6 -/
mutual
def laws_FnExecuteOrdo.j0 : Nat → Int → Int → List Int → Int → Bool → List Int → Int → Bool → Bool → Option (Bool)
 | 0, _, _, _, _, _, _, _, _, _ => none
 | k + 1, x3, x4, x5, x6, x7, x8, x9, x10, x52 => if x52 = true then (if (x7 == x10) = true then (if x6 = x9 then ((laws_sameInts.f k x5 x8).bind fun t239 => (some t239)) else (some false)) else (some false)) else (laws_FnExecuteOrdo.l0 k x3 x4 x5 x6 (⟨#[111, 114, 100, 111]⟩ : ByteArray) 0)
def laws_FnExecuteOrdo.l0 : Nat → Int → Int → List Int → Int → ByteArray → Int → Option (Bool)
 | 0, _, _, _, _, _, _ => none
 | k + 1, x3, x4, x5, x6, x11, x12 => if x12 < (x5.length : Int) then (if x11.size + 1 ≤ 9223372036854775807 then (if 0 ≤ x12 then ((laws_digits.f k (rd x5 x12)).bind fun t241 => (if (x11 ++ (⟨#[32]⟩ : ByteArray)).size + t241.size ≤ 9223372036854775807 then (laws_FnExecuteOrdo.l0 k x3 x4 x5 x6 ((x11 ++ (⟨#[32]⟩ : ByteArray)) ++ t241) (wrap64 (x12 + 1))) else (none))) else (none)) else (none)) else ((laws_digits.f k x3).bind fun t242 => (if 5 + t242.size ≤ 9223372036854775807 then (if ((⟨#[111, 114, 100, 111, 32]⟩ : ByteArray) ++ t242).size + 1 ≤ 9223372036854775807 then ((laws_digits.f k x4).bind fun t243 => (if (((⟨#[111, 114, 100, 111, 32]⟩ : ByteArray) ++ t242) ++ (⟨#[32]⟩ : ByteArray)).size + t243.size ≤ 9223372036854775807 then (if ((((⟨#[111, 114, 100, 111, 32]⟩ : ByteArray) ++ t242) ++ (⟨#[32]⟩ : ByteArray)) ++ t243).size + 1 ≤ 9223372036854775807 then ((impl_Execute.f k (((((⟨#[111, 114, 100, 111, 32]⟩ : ByteArray) ++ t242) ++ (⟨#[32]⟩ : ByteArray)) ++ t243) ++ (⟨#[10]⟩ : ByteArray))).bind fun t244 => (if x11.size + 6 ≤ 9223372036854775807 then ((laws_digits.f k x6).bind fun t245 => (if (x11 ++ (⟨#[32, 114, 101, 115, 116, 32]⟩ : ByteArray)).size + t245.size ≤ 9223372036854775807 then (if ((x11 ++ (⟨#[32, 114, 101, 115, 116, 32]⟩ : ByteArray)) ++ t245).size + 1 ≤ 9223372036854775807 then ((laws_endLine.f k 0 0).bind fun t246 => (if (((x11 ++ (⟨#[32, 114, 101, 115, 116, 32]⟩ : ByteArray)) ++ t245) ++ (⟨#[10]⟩ : ByteArray)).size + t246.size ≤ 9223372036854775807 then (some (t244.toList == ((((x11 ++ (⟨#[32, 114, 101, 115, 116, 32]⟩ : ByteArray)) ++ t245) ++ (⟨#[10]⟩ : ByteArray)) ++ t246).toList)) else (none))) else (none)) else (none))) else (none))) else (none)) else (none))) else (none)) else (none)))
end
def laws_FnExecuteOrdo.f (k : Nat) (l0 : List Int) : Option (Bool) := if (l0.length : Int) > 1048576 then (some true) else ((spec_DrawRhythmOrdo.f k l0).bind fun bt226 => ((impl_RhythmOrdo.f k bt226.1 bt226.2).bind fun bt228 => ((spec_RhythmOrdo.f k bt226.1 bt226.2).bind fun bt233 => (if (bt228.2.2 != bt233.2.2) = true then (laws_FnExecuteOrdo.j0 k bt226.1 bt226.2 bt228.1 bt228.2.1 bt228.2.2 bt233.1 bt233.2.1 bt233.2.2 true) else (if bt228.2.1 = bt233.2.1 then ((laws_sameInts.f k bt228.1 bt233.1).bind fun t238 => (if t238 = true then (laws_FnExecuteOrdo.j0 k bt226.1 bt226.2 bt228.1 bt228.2.1 bt228.2.2 bt233.1 bt233.2.1 bt233.2.2 (!bt228.2.2)) else (laws_FnExecuteOrdo.j0 k bt226.1 bt226.2 bt228.1 bt228.2.1 bt228.2.2 bt233.1 bt233.2.1 bt233.2.2 true))) else (laws_FnExecuteOrdo.j0 k bt226.1 bt226.2 bt228.1 bt228.2.1 bt228.2.2 bt233.1 bt233.2.1 bt233.2.2 true))))))
set_option maxHeartbeats 8000000 in
set_option maxRecDepth 100000 in
theorem laws_FnExecuteOrdo.calls (k : Nat) (A0 : Option Addr) (c0 : Nat) (l0 : List Int) (r : Bool) (w : World) (hr0 : Kd.C (Kd.int .u8) w A0 l0.length l0) (hc0 : l0.length ≤ c0) (hTM : TabM w) (h : laws_FnExecuteOrdo.f k l0 = some r) :
  Calls Tryz.prog 6 #[.slice A0 l0.length c0] w fun e w' => e = .returned (.bool r) ∧ Below w.heap.size w w' := by
 have HTM := am hTM
 clear hTM
 have HR0 := am hr0
 have HC0 := am hc0
 clear hr0 hc0
 have HB := am (Below.refl w.heap.size w)
 have H : (if (l0.length : Int) > 1048576 then (some true) else ((spec_DrawRhythmOrdo.f k l0).bind fun bt226 => ((impl_RhythmOrdo.f k bt226.1 bt226.2).bind fun bt228 => ((spec_RhythmOrdo.f k bt226.1 bt226.2).bind fun bt233 => (if (bt228.2.2 != bt233.2.2) = true then (laws_FnExecuteOrdo.j0 k bt226.1 bt226.2 bt228.1 bt228.2.1 bt228.2.2 bt233.1 bt233.2.1 bt233.2.2 true) else (if bt228.2.1 = bt233.2.1 then ((laws_sameInts.f k bt228.1 bt233.1).bind fun t238 => (if t238 = true then (laws_FnExecuteOrdo.j0 k bt226.1 bt226.2 bt228.1 bt228.2.1 bt228.2.2 bt233.1 bt233.2.1 bt233.2.2 (!bt228.2.2)) else (laws_FnExecuteOrdo.j0 k bt226.1 bt226.2 bt228.1 bt228.2.1 bt228.2.2 bt233.1 bt233.2.1 bt233.2.2 true))) else (laws_FnExecuteOrdo.j0 k bt226.1 bt226.2 bt228.1 bt228.2.1 bt228.2.2 bt233.1 bt233.2.1 bt233.2.2 true))))))) = some r := h
 clear h
 by_cases c2 : (l0.length : Int) > 1048576
 ·rw [if_pos c2] at H
  have c2b0 : decide (1048576 < (l0.length : Int)) = true := decide_eq_true c2
  have c2b1 : decide (1048576 < l0.length) = true := decide_eq_true (by omega)
  clear c2
  obtain rfl := Option.some.inj H
  go_enter Tryz.func6, Tryz.ntmps6
  go_wp2
  go_ret
  exact ⟨by first | rfl | (simp [errW_none, errW_some] <;> rfl) | (simp [*, errW_none, errW_some] <;> rfl), bu HB.out⟩
 ·rw [if_neg c2] at H
  have c2b0 : decide (1048576 < (l0.length : Int)) = false := decide_eq_false c2
  have c2b1 : decide (1048576 < l0.length) = false := decide_eq_false (by omega)
  clear c2
  replace H := Option.bind_eq_some_iff.mp H
  obtain ⟨⟨t226, t227⟩, A30, H⟩ := H
  replace H : ((impl_RhythmOrdo.f k t226 t227).bind fun bt228 => ((spec_RhythmOrdo.f k t226 t227).bind fun bt233 => (if (bt228.2.2 != bt233.2.2) = true then (laws_FnExecuteOrdo.j0 k t226 t227 bt228.1 bt228.2.1 bt228.2.2 bt233.1 bt233.2.1 bt233.2.2 true) else (if bt228.2.1 = bt233.2.1 then ((laws_sameInts.f k bt228.1 bt233.1).bind fun t238 => (if t238 = true then (laws_FnExecuteOrdo.j0 k t226 t227 bt228.1 bt228.2.1 bt228.2.2 bt233.1 bt233.2.1 bt233.2.2 (!bt228.2.2)) else (laws_FnExecuteOrdo.j0 k t226 t227 bt228.1 bt228.2.1 bt228.2.2 bt233.1 bt233.2.1 bt233.2.2 true))) else (laws_FnExecuteOrdo.j0 k t226 t227 bt228.1 bt228.2.1 bt228.2.2 bt233.1 bt233.2.1 bt233.2.2 true))))) = some r := H
  have A3 := am A30
  clear A30
  replace H := Option.bind_eq_some_iff.mp H
  obtain ⟨⟨t228, t229, t230⟩, A40, H⟩ := H
  replace H : ((spec_RhythmOrdo.f k t226 t227).bind fun bt233 => (if (t230 != bt233.2.2) = true then (laws_FnExecuteOrdo.j0 k t226 t227 t228 t229 t230 bt233.1 bt233.2.1 bt233.2.2 true) else (if t229 = bt233.2.1 then ((laws_sameInts.f k t228 bt233.1).bind fun t238 => (if t238 = true then (laws_FnExecuteOrdo.j0 k t226 t227 t228 t229 t230 bt233.1 bt233.2.1 bt233.2.2 (!t230)) else (laws_FnExecuteOrdo.j0 k t226 t227 t228 t229 t230 bt233.1 bt233.2.1 bt233.2.2 true))) else (laws_FnExecuteOrdo.j0 k t226 t227 t228 t229 t230 bt233.1 bt233.2.1 bt233.2.2 true)))) = some r := H
  have A4 := am A40
  clear A40
  replace H := Option.bind_eq_some_iff.mp H
  obtain ⟨⟨t233, t234, t235⟩, A50, H⟩ := H
  replace H : (if (t230 != t235) = true then (laws_FnExecuteOrdo.j0 k t226 t227 t228 t229 t230 t233 t234 t235 true) else (if t229 = t234 then ((laws_sameInts.f k t228 t233).bind fun t238 => (if t238 = true then (laws_FnExecuteOrdo.j0 k t226 t227 t228 t229 t230 t233 t234 t235 (!t230)) else (laws_FnExecuteOrdo.j0 k t226 t227 t228 t229 t230 t233 t234 t235 true))) else (laws_FnExecuteOrdo.j0 k t226 t227 t228 t229 t230 t233 t234 t235 true))) = some r := H
  have A5 := am A50
  clear A50
  have HC6 := am H
  clear H
  go_enter Tryz.func6, Tryz.ntmps6
  go_upto_region 6 with (first | ((with_reducible refine gate_callee (f := 16) rfl ?_); refine goesL_ (some 18) rfl rfl Tryz.func16 (by kernel_rfl) rfl #[.slice A0 l0.length c0] rfl (by (try simp only [List.map_toArray, List.map_cons, List.map_nil]); first | done | rfl | (simp only [List.length_drop, List.length_take]; rfl)) ?_; (with_reducible refine (spec_DrawRhythmOrdo.calls k _ _ l0 t226 t227 _ ?side1 ?side2 A3.out).mono ?_); (case side1 => exact cu HR0.out); (case side2 => exact HC0.out); rintro e w7 ⟨rfl, hb⟩; refine ⟨_, rfl, ?_⟩; have n0_ := am (below_step (bu HB.out) hb); clear HB; have HB := n0_; clear n0_; (try clear hb); (try clear hb2); (try clear hk); (try clear hi)) | ((with_reducible refine gate_callee (f := 17) rfl ?_); refine goesL_ (some 24) rfl rfl Tryz.func17 (by kernel_rfl) rfl #[.int .i64 t226, .int .i64 t227] rfl (by (try simp only [List.map_toArray, List.map_cons, List.map_nil]); first | done | rfl | (simp only [List.length_drop, List.length_take]; rfl)) ?_; (with_reducible refine (impl_RhythmOrdo.calls k t226 t227 t228 t229 t230 _ A4.out).mono ?_); rintro e w8 ⟨v231, rfl, ho0, hb⟩; refine ⟨_, rfl, ?_⟩; have n0_ := am (Kd.R_lower ho0 (below_size (bu HB.out))); have n1_ := am (below_step (bu HB.out) hb); clear HB; have HO232 := n0_; have HB := n1_; clear n0_ n1_; (try clear hb); (try clear hb2); (try clear hk); (try clear hi); (try clear ho0)) | ((with_reducible refine gate_callee (f := 18) rfl ?_); refine goesL_ (some 31) rfl rfl Tryz.func18 (by kernel_rfl) rfl #[.int .i64 t226, .int .i64 t227] rfl (by (try simp only [List.map_toArray, List.map_cons, List.map_nil]); first | done | rfl | (simp only [List.length_drop, List.length_take]; rfl)) ?_; (with_reducible refine (spec_RhythmOrdo.calls k t226 t227 t233 t234 t235 _ A5.out).mono ?_); rintro e w9 ⟨v236, rfl, ho0, hb⟩; refine ⟨_, rfl, ?_⟩; have n0_ := am (Kd.R_elder' (ru HO232.out) (Kd.R_base ho0) hb); have n1_ := am (Kd.R_lower (Kd.R_new' ho0 (Kd.R_lt (ru HO232.out))) (below_size (bu HB.out))); have n2_ := am (below_step (bu HB.out) hb); clear HO232; clear HB; have HO232 := n0_; have HO237 := n1_; have HB := n2_; clear n0_ n1_ n2_; (try clear hb); (try clear hb2); (try clear hk); (try clear hi); (try clear ho0)))
  (try simp only [Act.put, sA, sZ, sS])
  go_cut [52] (fun v52 wc => ∃ (kq : Nat) (x52_5 : Bool), v52 = .bool x52_5 ∧ Aside0 (laws_FnExecuteOrdo.j0 kq t226 t227 t228 t229 t230 t233 t234 t235 x52_5 = some r) ∧ Aside0 (kq ≤ k) ∧ Aside0 (Kd.R (Kd.int .i64) 3 wc w.heap.size (fun k_ => some k_ ≠ (v236 : Value).ownBlock) v231 t228) ∧ Aside0 (Kd.R (Kd.int .i64) 3 wc w.heap.size (fun k_ => some k_ ≠ (v231 : Value).ownBlock) v236 t233) ∧ Aside0 (Below w.heap.size w wc))
  case first =>
   have H := HC6.out
   clear HC6
   by_cases c10 : (t230 != t235) = true
   ·rw [if_pos c10] at H
    have c10b0 : (t230 != t235) = true := c10
    (try (have c10b1 : decide (t230 = t235) = false := by simpa using c10))
    (try (have c10b2 : (t230 == t235) = false := by simpa using c10))
    (try (have c10b3 : ¬ (t230 = t235) := by simpa using c10))
    clear c10
    (first | rw [c10b0] | (simp only [i64_w, i32_w]; rw [c10b0]) | skip)
    have H' := am H
    clear H
    go_wp2
    go_meet
    case rel => exact ⟨_, (true), (by first | rfl | (simp; done) | (simp [*]; done)), H', ⟨by first | omega | exact Nat.le_refl _⟩, ⟨by (with_reducible repeat (first | apply Kd.R_alloc | apply Kd.R_drewN | apply Kd.R_drew)); exact Kd.R_mono HO232.out (fun _ hk => hk.2)⟩, ⟨by (with_reducible repeat (first | apply Kd.R_alloc | apply Kd.R_drewN | apply Kd.R_drew)); exact Kd.R_mono HO237.out (fun _ hk => hk.2)⟩, ⟨bu HB.out⟩⟩
   ·rw [if_neg c10] at H
    have c10b0 : (t230 != t235) = false := by simpa using c10
    (try (have c10b1 : decide (t230 = t235) = true := by simpa using c10))
    (try (have c10b2 : (t230 == t235) = true := by simpa using c10))
    clear c10
    (first | rw [c10b0] | (simp only [i64_w, i32_w]; rw [c10b0]) | skip)
    by_cases c11 : t229 = t234
    ·rw [if_pos c11] at H
     have c11b0 : (t229 == t234) = true := beq_iff_eq.mpr c11
     have c11b1 : (t229 != t234) = false := bne_eq_false_iff_eq.mpr c11
     clear c11
     replace H := Option.bind_eq_some_iff.mp H
     obtain ⟨t238, A120, H⟩ := H
     replace H : (if t238 = true then (laws_FnExecuteOrdo.j0 k t226 t227 t228 t229 t230 t233 t234 t235 (!t230)) else (laws_FnExecuteOrdo.j0 k t226 t227 t228 t229 t230 t233 t234 t235 true)) = some r := H
     have A12 := am A120
     clear A120
     by_cases c13 : t238 = true
     ·subst c13
      have H1 : (laws_FnExecuteOrdo.j0 k t226 t227 t228 t229 t230 t233 t234 t235 (!t230)) = some r := by rw [if_pos rfl] at H; exact H
      clear H
      have H := H1
      clear H1
      have H' := am H
      clear H
      obtain ⟨Ao14, co14, eo14⟩ := Kd.R_slice HO232.out
      subst eo14
      obtain ⟨Ao15, co15, eo15⟩ := Kd.R_slice HO237.out
      subst eo15
      go_wp2_with (first | (go_at_call 19; (with_reducible refine (laws_sameInts.calls k _ _ t228 _ _ t233 true _ ?side1 ?side2 ?side3 ?side4 A12.out).mono ?_); (case side1 => exact cu (Kd.R_reads' HO232.out).2.2); (case side2 => exact (Kd.R_reads' HO232.out).2.1); (case side3 => exact cu (Kd.R_reads' HO237.out).2.2); (case side4 => exact (Kd.R_reads' HO237.out).2.1); rintro e w' ⟨rfl, ⟨nd, rfl⟩⟩))
      go_meet
      case rel => exact ⟨_, (!t230), (by first | rfl | (simp; done) | (simp [*]; done)), H', ⟨by first | omega | exact Nat.le_refl _⟩, ⟨by (with_reducible repeat (first | apply Kd.R_alloc | apply Kd.R_drewN | apply Kd.R_drew)); exact Kd.R_mono HO232.out (fun _ hk => hk.2)⟩, ⟨by (with_reducible repeat (first | apply Kd.R_alloc | apply Kd.R_drewN | apply Kd.R_drew)); exact Kd.R_mono HO237.out (fun _ hk => hk.2)⟩, ⟨bu HB.out⟩⟩
     ·replace c13 := Bool.eq_false_iff.mpr c13
      subst c13
      have H1 : (laws_FnExecuteOrdo.j0 k t226 t227 t228 t229 t230 t233 t234 t235 true) = some r := by rw [if_neg (show ¬ (false = true) by decide)] at H; exact H
      clear H
      have H := H1
      clear H1
      have H' := am H
      clear H
      obtain ⟨Ao16, co16, eo16⟩ := Kd.R_slice HO232.out
      subst eo16
      obtain ⟨Ao17, co17, eo17⟩ := Kd.R_slice HO237.out
      subst eo17
      go_wp2_with (first | (go_at_call 19; (with_reducible refine (laws_sameInts.calls k _ _ t228 _ _ t233 false _ ?side1 ?side2 ?side3 ?side4 A12.out).mono ?_); (case side1 => exact cu (Kd.R_reads' HO232.out).2.2); (case side2 => exact (Kd.R_reads' HO232.out).2.1); (case side3 => exact cu (Kd.R_reads' HO237.out).2.2); (case side4 => exact (Kd.R_reads' HO237.out).2.1); rintro e w' ⟨rfl, ⟨nd, rfl⟩⟩))
      go_meet
      case rel => exact ⟨_, (true), (by first | rfl | (simp; done) | (simp [*]; done)), H', ⟨by first | omega | exact Nat.le_refl _⟩, ⟨by (with_reducible repeat (first | apply Kd.R_alloc | apply Kd.R_drewN | apply Kd.R_drew)); exact Kd.R_mono HO232.out (fun _ hk => hk.2)⟩, ⟨by (with_reducible repeat (first | apply Kd.R_alloc | apply Kd.R_drewN | apply Kd.R_drew)); exact Kd.R_mono HO237.out (fun _ hk => hk.2)⟩, ⟨bu HB.out⟩⟩
    ·rw [if_neg c11] at H
     have c11b0 : (t229 == t234) = false := beq_eq_false_iff_ne.mpr c11
     have c11b1 : (t229 != t234) = true := bne_iff_ne.mpr c11
     have H' := am H
     clear H
     go_wp2
     go_meet
     case rel => exact ⟨_, (true), (by first | rfl | (simp; done) | (simp [*]; done)), H', ⟨by first | omega | exact Nat.le_refl _⟩, ⟨by (with_reducible repeat (first | apply Kd.R_alloc | apply Kd.R_drewN | apply Kd.R_drew)); exact Kd.R_mono HO232.out (fun _ hk => hk.2)⟩, ⟨by (with_reducible repeat (first | apply Kd.R_alloc | apply Kd.R_drewN | apply Kd.R_drew)); exact Kd.R_mono HO237.out (fun _ hk => hk.2)⟩, ⟨bu HB.out⟩⟩
  case rest =>
   clear HC6
   try clear c1
   try clear c2
   try clear c2b0
   try clear c2b1
   try clear p2
   try clear c6
   try clear c10
   try clear c10b0
   try clear c10b1
   try clear c10b2
   try clear c11
   try clear c11b0
   try clear c11b1
   try clear c13
   try clear c16
   try clear c17
   obtain ⟨kq, x52_5, rfl, HA, HJ5, HO_5, HO_8, HB⟩ := hcut
   cases kq with
   | zero => exact absurd HA.out (by simp [laws_FnExecuteOrdo.j0])
   | succ kj5 =>
    have H := HA.out
    clear HA
    simp only [laws_FnExecuteOrdo.j0] at H
    by_cases c18 : x52_5 = true
    ·subst c18
     have H1 : (if (t230 == t235) = true then (if t229 = t234 then ((laws_sameInts.f kj5 t228 t233).bind fun t239 => (some t239)) else (some false)) else (some false)) = some r := by rw [if_pos rfl] at H; exact H
     clear H
     have H := H1
     clear H1
     by_cases c19 : (t230 == t235) = true
     ·rw [if_pos c19] at H
      have c19b0 : (t230 == t235) = true := c19
      (try (have c19b1 : decide (t230 = t235) = true := by simpa using c19))
      (try (have c19b2 : (t230 == t235) = true := by simpa using c19))
      clear c19
      by_cases c20 : t229 = t234
      ·rw [if_pos c20] at H
       have c20b0 : (t229 == t234) = true := beq_iff_eq.mpr c20
       have c20b1 : (t229 != t234) = false := bne_eq_false_iff_eq.mpr c20
       clear c20
       replace H := Option.bind_eq_some_iff.mp H
       obtain ⟨t239, A210, H⟩ := H
       replace H : (some t239) = some r := H
       have A21 := am A210
       clear A210
       obtain rfl := Option.some.inj H
       obtain ⟨Ao22, co22, eo22⟩ := Kd.R_slice HO_5.out
       subst eo22
       obtain ⟨Ao23, co23, eo23⟩ := Kd.R_slice HO_8.out
       subst eo23
       go_wp2_with (first | (go_at_call 19; (with_reducible refine (laws_sameInts.calls kj5 _ _ t228 _ _ t233 t239 _ ?side1 ?side2 ?side3 ?side4 A21.out).mono ?_); (case side1 => exact cu (Kd.R_reads' HO_5.out).2.2); (case side2 => exact (Kd.R_reads' HO_5.out).2.1); (case side3 => exact cu (Kd.R_reads' HO_8.out).2.2); (case side4 => exact (Kd.R_reads' HO_8.out).2.1); rintro e w' ⟨rfl, ⟨nd, rfl⟩⟩))
       go_ret
       exact ⟨by first | rfl | (simp [errW_none, errW_some] <;> rfl) | (simp [*, errW_none, errW_some] <;> rfl), bu HB.out⟩
      ·rw [if_neg c20] at H
       have c20b0 : (t229 == t234) = false := beq_eq_false_iff_ne.mpr c20
       have c20b1 : (t229 != t234) = true := bne_iff_ne.mpr c20
       obtain rfl := Option.some.inj H
       go_wp2
       go_ret
       exact ⟨by first | rfl | (simp [errW_none, errW_some] <;> rfl) | (simp [*, errW_none, errW_some] <;> rfl), bu HB.out⟩
     ·rw [if_neg c19] at H
      have c19b0 : (t230 == t235) = false := by simpa using c19
      (try (have c19b1 : decide (t230 = t235) = false := by simpa using c19))
      (try (have c19b2 : (t230 == t235) = false := by simpa using c19))
      (try (have c19b3 : ¬ (t230 = t235) := by simpa using c19))
      clear c19
      obtain rfl := Option.some.inj H
      go_wp2
      go_ret
      exact ⟨by first | rfl | (simp [errW_none, errW_some] <;> rfl) | (simp [*, errW_none, errW_some] <;> rfl), bu HB.out⟩
    ·replace c18 := Bool.eq_false_iff.mpr c18
     subst c18
     have H1 : (laws_FnExecuteOrdo.l0 kj5 t226 t227 t228 t229 (⟨#[111, 114, 100, 111]⟩ : ByteArray) 0) = some r := by rw [if_neg (show ¬ (false = true) by decide)] at H; exact H
     clear H
     have H := H1
     clear H1
     have H' := am H
     clear H
     go_wp2
     go_loopg [11, 12] kj5 (fun kq v11 v12 w' => ∃ (x11_2 : ByteArray) (x12_2 : Int), v11 = .string x11_2 ∧ v12 = .int .i64 x12_2 ∧ Aside0 (laws_FnExecuteOrdo.l0 kq t226 t227 t228 t229 x11_2 x12_2 = some r) ∧ Aside0 (kq ≤ kj5) ∧ Aside0 (Kd.R (Kd.int .i64) 3 w' w.heap.size (fun _ => True) v231 t228) ∧ Aside0 (Below w.heap.size w w'))
     case atStart => exact ⟨((⟨#[111, 114, 100, 111]⟩ : ByteArray)), (0), (by first | rfl | (simp; done) | (simp [*]; done)), (by first | rfl | (simp; done) | (simp [*]; done)), H', ⟨Nat.le_refl _⟩, ⟨by (with_reducible repeat (first | apply Kd.R_alloc | apply Kd.R_drewN | apply Kd.R_drew)); exact Kd.R_mono HO_5.out (fun _ hk => trivial)⟩, ⟨bu HB.out⟩⟩
     case round =>
      clear H'
      try clear c1
      try clear c2
      try clear c2b0
      try clear c2b1
      try clear p2
      try clear c6
      try clear c10
      try clear c10b0
      try clear c10b1
      try clear c10b2
      try clear c11
      try clear c11b0
      try clear c11b1
      try clear c13
      try clear c16
      try clear c17
      try clear c18
      try clear c19
      try clear c19b0
      try clear c19b1
      try clear c19b2
      try clear c20
      try clear c20b0
      try clear c20b1
      try clear p2
      obtain ⟨x11_2, x12_2, rfl, rfl, HA, HK2, HO_5, HB⟩ := hrel
      cases gk with
      | zero => exact absurd HA.out (by simp [laws_FnExecuteOrdo.l0])
      | succ k2 =>
       have H := HA.out
       clear HA
       simp only [laws_FnExecuteOrdo.l0] at H
       by_cases c24 : x12_2 < (t228.length : Int)
       ·rw [if_pos c24] at H
        have c24b0 : decide (x12_2 < (t228.length : Int)) = true := decide_eq_true c24
        clear c24
        by_cases c25 : x11_2.size + 1 ≤ 9223372036854775807
        ·rw [if_pos c25] at H
         have c25b0 := eq_true c25
         have c25b1 : decide (x11_2.size + 1 ≤ 9223372036854775807) = true := decide_eq_true c25
         try have c25b2 : (9223372036854775807 < x11_2.size + 1) = False := eq_false (Nat.not_lt.2 c25)
         by_cases c26 : 0 ≤ x12_2
         ·rw [if_pos c26] at H
          have c26b0 : decide (0 ≤ x12_2) = true := decide_eq_true c26
          clear c26
          replace H := Option.bind_eq_some_iff.mp H
          obtain ⟨t241, A270, H⟩ := H
          replace H : (if (x11_2 ++ (⟨#[32]⟩ : ByteArray)).size + t241.size ≤ 9223372036854775807 then (laws_FnExecuteOrdo.l0 k2 t226 t227 t228 t229 ((x11_2 ++ (⟨#[32]⟩ : ByteArray)) ++ t241) (wrap64 (x12_2 + 1))) else (none)) = some r := H
          have A27 := am A270
          clear A270
          by_cases c28 : (x11_2 ++ (⟨#[32]⟩ : ByteArray)).size + t241.size ≤ 9223372036854775807
          ·rw [if_pos c28] at H
           have c28b0 := eq_true c28
           have c28b7 : x11_2.size + 1 + t241.size ≤ 9223372036854775807 := Nat.le_trans (Nat.le_of_eq (by rw [ByteArray.size_append]; rfl)) c28
           have c28b8 : (x11_2.size + 1 + t241.size ≤ 9223372036854775807) = True := eq_true c28b7
           have c28b9 : (9223372036854775807 < x11_2.size + 1 + t241.size) = False := eq_false (Nat.not_lt.2 c28b7)
           have c28b6 : ((x11_2 ++ (⟨#[32]⟩ : ByteArray)).size + t241.size) = (x11_2.size + 1 + t241.size) := by rw [ByteArray.size_append]; rfl
           have c28b1 : decide ((x11_2 ++ (⟨#[32]⟩ : ByteArray)).size + t241.size ≤ 9223372036854775807) = true := decide_eq_true c28
           try have c28b2 : (9223372036854775807 < (x11_2 ++ (⟨#[32]⟩ : ByteArray)).size + t241.size) = False := eq_false (Nat.not_lt.2 c28)
           try have c28b4 : (9223372036854775807 < x11_2.size + 1 + t241.size) = False := eq_false (by have h_ := c28; simp only [ByteArray.size_append] at h_; have e0_ : (⟨#[32]⟩ : ByteArray).size = 1 := rfl; omega)
           have H' := am H
           clear H
           obtain ⟨Ao29, co29, eo29⟩ := Kd.R_slice HO_5.out
           subst eo29
           have p240 : 0 ≤ (x12_2 : Int) := od
           have q240 : x12_2 < (t228.length : Int) := od
           obtain ⟨ad240, e240, hx240_0⟩ := Kd.at_int (Kd.R_reads' HO_5.out).2.2 x12_2 p240 q240
           cases e240
           replace p240 := eq_true p240
           replace q240 := eq_true q240
           go_wp2_with (first | ((with_reducible refine gate_callee (f := 20) rfl ?_); refine goesL_ (some 78) rfl rfl Tryz.func20 (by kernel_rfl) rfl #[.int .i64 (rd t228 x12_2)] rfl (by (try simp only [List.map_toArray, List.map_cons, List.map_nil]); first | done | rfl | (simp only [List.length_drop, List.length_take]; rfl)) ?_; (with_reducible refine (laws_digits.calls k2 (rd t228 x12_2) t241 _ A27.out).mono ?_); rintro e w30 ⟨rfl, hb⟩; refine ⟨_, rfl, ?_⟩; have n0_ := am (Kd.R_below (ru HO_5.out) hb); have n1_ := am (below_step (bu HB.out) hb); clear HO_5; clear HB; have HO_5 := n0_; have HB := n1_; clear n0_ n1_; (try clear hb); (try clear hb2); (try clear hk); (try clear hi)))
           go_roundg k2
           case measure => have := HJ5.out; have := HK2.out; omega
           case rel => exact ⟨((x11_2 ++ (⟨#[32]⟩ : ByteArray)) ++ t241), (wrap64 (x12_2 + 1)), (by first | rfl | (simp; done) | (simp [*]; done)), (by first | rfl | (simp; done) | (simp [*]; done)), H', ⟨by have := HJ5.out; have := HK2.out; omega⟩, ⟨ru HO_5.out⟩, ⟨bu HB.out⟩⟩
          ·rw [if_neg c28] at H
           exact absurd H (by simp)
         ·rw [if_neg c26] at H
          exact absurd H (by simp)
        ·rw [if_neg c25] at H
         exact absurd H (by simp)
       ·rw [if_neg c24] at H
        have c24b0 : decide (x12_2 < (t228.length : Int)) = false := decide_eq_false c24
        clear c24
        replace H := Option.bind_eq_some_iff.mp H
        obtain ⟨t242, A310, H⟩ := H
        replace H : (if 5 + t242.size ≤ 9223372036854775807 then (if ((⟨#[111, 114, 100, 111, 32]⟩ : ByteArray) ++ t242).size + 1 ≤ 9223372036854775807 then ((laws_digits.f k2 t227).bind fun t243 => (if (((⟨#[111, 114, 100, 111, 32]⟩ : ByteArray) ++ t242) ++ (⟨#[32]⟩ : ByteArray)).size + t243.size ≤ 9223372036854775807 then (if ((((⟨#[111, 114, 100, 111, 32]⟩ : ByteArray) ++ t242) ++ (⟨#[32]⟩ : ByteArray)) ++ t243).size + 1 ≤ 9223372036854775807 then ((impl_Execute.f k2 (((((⟨#[111, 114, 100, 111, 32]⟩ : ByteArray) ++ t242) ++ (⟨#[32]⟩ : ByteArray)) ++ t243) ++ (⟨#[10]⟩ : ByteArray))).bind fun t244 => (if x11_2.size + 6 ≤ 9223372036854775807 then ((laws_digits.f k2 t229).bind fun t245 => (if (x11_2 ++ (⟨#[32, 114, 101, 115, 116, 32]⟩ : ByteArray)).size + t245.size ≤ 9223372036854775807 then (if ((x11_2 ++ (⟨#[32, 114, 101, 115, 116, 32]⟩ : ByteArray)) ++ t245).size + 1 ≤ 9223372036854775807 then ((laws_endLine.f k2 0 0).bind fun t246 => (if (((x11_2 ++ (⟨#[32, 114, 101, 115, 116, 32]⟩ : ByteArray)) ++ t245) ++ (⟨#[10]⟩ : ByteArray)).size + t246.size ≤ 9223372036854775807 then (some (t244.toList == ((((x11_2 ++ (⟨#[32, 114, 101, 115, 116, 32]⟩ : ByteArray)) ++ t245) ++ (⟨#[10]⟩ : ByteArray)) ++ t246).toList)) else (none))) else (none)) else (none))) else (none))) else (none)) else (none))) else (none)) else (none)) = some r := H
        have A31 := am A310
        clear A310
        by_cases c32 : 5 + t242.size ≤ 9223372036854775807
        ·rw [if_pos c32] at H
         have c32b0 := eq_true c32
         have c32b1 : decide (5 + t242.size ≤ 9223372036854775807) = true := decide_eq_true c32
         try have c32b2 : (9223372036854775807 < 5 + t242.size) = False := eq_false (Nat.not_lt.2 c32)
         by_cases c33 : ((⟨#[111, 114, 100, 111, 32]⟩ : ByteArray) ++ t242).size + 1 ≤ 9223372036854775807
         ·rw [if_pos c33] at H
          have c33b0 := eq_true c33
          have c33b1 : decide (((⟨#[111, 114, 100, 111, 32]⟩ : ByteArray) ++ t242).size + 1 ≤ 9223372036854775807) = true := decide_eq_true c33
          try have c33b2 : (9223372036854775807 < ((⟨#[111, 114, 100, 111, 32]⟩ : ByteArray) ++ t242).size + 1) = False := eq_false (Nat.not_lt.2 c33)
          try have c33b4 : (9223372036854775807 < 5 + t242.size + 1) = False := eq_false (by have h_ := c33; simp only [ByteArray.size_append] at h_; have e0_ : (⟨#[111, 114, 100, 111, 32]⟩ : ByteArray).size = 5 := rfl; omega)
          replace H := Option.bind_eq_some_iff.mp H
          obtain ⟨t243, A340, H⟩ := H
          replace H : (if (((⟨#[111, 114, 100, 111, 32]⟩ : ByteArray) ++ t242) ++ (⟨#[32]⟩ : ByteArray)).size + t243.size ≤ 9223372036854775807 then (if ((((⟨#[111, 114, 100, 111, 32]⟩ : ByteArray) ++ t242) ++ (⟨#[32]⟩ : ByteArray)) ++ t243).size + 1 ≤ 9223372036854775807 then ((impl_Execute.f k2 (((((⟨#[111, 114, 100, 111, 32]⟩ : ByteArray) ++ t242) ++ (⟨#[32]⟩ : ByteArray)) ++ t243) ++ (⟨#[10]⟩ : ByteArray))).bind fun t244 => (if x11_2.size + 6 ≤ 9223372036854775807 then ((laws_digits.f k2 t229).bind fun t245 => (if (x11_2 ++ (⟨#[32, 114, 101, 115, 116, 32]⟩ : ByteArray)).size + t245.size ≤ 9223372036854775807 then (if ((x11_2 ++ (⟨#[32, 114, 101, 115, 116, 32]⟩ : ByteArray)) ++ t245).size + 1 ≤ 9223372036854775807 then ((laws_endLine.f k2 0 0).bind fun t246 => (if (((x11_2 ++ (⟨#[32, 114, 101, 115, 116, 32]⟩ : ByteArray)) ++ t245) ++ (⟨#[10]⟩ : ByteArray)).size + t246.size ≤ 9223372036854775807 then (some (t244.toList == ((((x11_2 ++ (⟨#[32, 114, 101, 115, 116, 32]⟩ : ByteArray)) ++ t245) ++ (⟨#[10]⟩ : ByteArray)) ++ t246).toList)) else (none))) else (none)) else (none))) else (none))) else (none)) else (none)) = some r := H
          have A34 := am A340
          clear A340
          by_cases c35 : (((⟨#[111, 114, 100, 111, 32]⟩ : ByteArray) ++ t242) ++ (⟨#[32]⟩ : ByteArray)).size + t243.size ≤ 9223372036854775807
          ·rw [if_pos c35] at H
           have c35b0 := eq_true c35
           have c35b1 : decide ((((⟨#[111, 114, 100, 111, 32]⟩ : ByteArray) ++ t242) ++ (⟨#[32]⟩ : ByteArray)).size + t243.size ≤ 9223372036854775807) = true := decide_eq_true c35
           try have c35b2 : (9223372036854775807 < (((⟨#[111, 114, 100, 111, 32]⟩ : ByteArray) ++ t242) ++ (⟨#[32]⟩ : ByteArray)).size + t243.size) = False := eq_false (Nat.not_lt.2 c35)
           try have c35b4 : (9223372036854775807 < 5 + t242.size + 1 + t243.size) = False := eq_false (by have h_ := c35; simp only [ByteArray.size_append] at h_; have e0_ : (⟨#[111, 114, 100, 111, 32]⟩ : ByteArray).size = 5 := rfl; have e1_ : (⟨#[32]⟩ : ByteArray).size = 1 := rfl; omega)
           by_cases c36 : ((((⟨#[111, 114, 100, 111, 32]⟩ : ByteArray) ++ t242) ++ (⟨#[32]⟩ : ByteArray)) ++ t243).size + 1 ≤ 9223372036854775807
           ·rw [if_pos c36] at H
            have c36b0 := eq_true c36
            have c36b1 : decide (((((⟨#[111, 114, 100, 111, 32]⟩ : ByteArray) ++ t242) ++ (⟨#[32]⟩ : ByteArray)) ++ t243).size + 1 ≤ 9223372036854775807) = true := decide_eq_true c36
            try have c36b2 : (9223372036854775807 < ((((⟨#[111, 114, 100, 111, 32]⟩ : ByteArray) ++ t242) ++ (⟨#[32]⟩ : ByteArray)) ++ t243).size + 1) = False := eq_false (Nat.not_lt.2 c36)
            try have c36b4 : (9223372036854775807 < 5 + t242.size + 1 + t243.size + 1) = False := eq_false (by have h_ := c36; simp only [ByteArray.size_append] at h_; have e0_ : (⟨#[111, 114, 100, 111, 32]⟩ : ByteArray).size = 5 := rfl; have e1_ : (⟨#[32]⟩ : ByteArray).size = 1 := rfl; omega)
            replace H := Option.bind_eq_some_iff.mp H
            obtain ⟨t244, A370, H⟩ := H
            replace H : (if x11_2.size + 6 ≤ 9223372036854775807 then ((laws_digits.f k2 t229).bind fun t245 => (if (x11_2 ++ (⟨#[32, 114, 101, 115, 116, 32]⟩ : ByteArray)).size + t245.size ≤ 9223372036854775807 then (if ((x11_2 ++ (⟨#[32, 114, 101, 115, 116, 32]⟩ : ByteArray)) ++ t245).size + 1 ≤ 9223372036854775807 then ((laws_endLine.f k2 0 0).bind fun t246 => (if (((x11_2 ++ (⟨#[32, 114, 101, 115, 116, 32]⟩ : ByteArray)) ++ t245) ++ (⟨#[10]⟩ : ByteArray)).size + t246.size ≤ 9223372036854775807 then (some (t244.toList == ((((x11_2 ++ (⟨#[32, 114, 101, 115, 116, 32]⟩ : ByteArray)) ++ t245) ++ (⟨#[10]⟩ : ByteArray)) ++ t246).toList)) else (none))) else (none)) else (none))) else (none)) = some r := H
            have A37 := am A370
            clear A370
            by_cases c38 : x11_2.size + 6 ≤ 9223372036854775807
            ·rw [if_pos c38] at H
             have c38b0 := eq_true c38
             have c38b1 : decide (x11_2.size + 6 ≤ 9223372036854775807) = true := decide_eq_true c38
             try have c38b2 : (9223372036854775807 < x11_2.size + 6) = False := eq_false (Nat.not_lt.2 c38)
             replace H := Option.bind_eq_some_iff.mp H
             obtain ⟨t245, A390, H⟩ := H
             replace H : (if (x11_2 ++ (⟨#[32, 114, 101, 115, 116, 32]⟩ : ByteArray)).size + t245.size ≤ 9223372036854775807 then (if ((x11_2 ++ (⟨#[32, 114, 101, 115, 116, 32]⟩ : ByteArray)) ++ t245).size + 1 ≤ 9223372036854775807 then ((laws_endLine.f k2 0 0).bind fun t246 => (if (((x11_2 ++ (⟨#[32, 114, 101, 115, 116, 32]⟩ : ByteArray)) ++ t245) ++ (⟨#[10]⟩ : ByteArray)).size + t246.size ≤ 9223372036854775807 then (some (t244.toList == ((((x11_2 ++ (⟨#[32, 114, 101, 115, 116, 32]⟩ : ByteArray)) ++ t245) ++ (⟨#[10]⟩ : ByteArray)) ++ t246).toList)) else (none))) else (none)) else (none)) = some r := H
             have A39 := am A390
             clear A390
             by_cases c40 : (x11_2 ++ (⟨#[32, 114, 101, 115, 116, 32]⟩ : ByteArray)).size + t245.size ≤ 9223372036854775807
             ·rw [if_pos c40] at H
              have c40b0 := eq_true c40
              have c40b7 : x11_2.size + 6 + t245.size ≤ 9223372036854775807 := Nat.le_trans (Nat.le_of_eq (by rw [ByteArray.size_append]; rfl)) c40
              have c40b8 : (x11_2.size + 6 + t245.size ≤ 9223372036854775807) = True := eq_true c40b7
              have c40b9 : (9223372036854775807 < x11_2.size + 6 + t245.size) = False := eq_false (Nat.not_lt.2 c40b7)
              have c40b6 : ((x11_2 ++ (⟨#[32, 114, 101, 115, 116, 32]⟩ : ByteArray)).size + t245.size) = (x11_2.size + 6 + t245.size) := by rw [ByteArray.size_append]; rfl
              have c40b1 : decide ((x11_2 ++ (⟨#[32, 114, 101, 115, 116, 32]⟩ : ByteArray)).size + t245.size ≤ 9223372036854775807) = true := decide_eq_true c40
              try have c40b2 : (9223372036854775807 < (x11_2 ++ (⟨#[32, 114, 101, 115, 116, 32]⟩ : ByteArray)).size + t245.size) = False := eq_false (Nat.not_lt.2 c40)
              try have c40b4 : (9223372036854775807 < x11_2.size + 6 + t245.size) = False := eq_false (by have h_ := c40; simp only [ByteArray.size_append] at h_; have e0_ : (⟨#[32, 114, 101, 115, 116, 32]⟩ : ByteArray).size = 6 := rfl; omega)
              by_cases c41 : ((x11_2 ++ (⟨#[32, 114, 101, 115, 116, 32]⟩ : ByteArray)) ++ t245).size + 1 ≤ 9223372036854775807
              ·rw [if_pos c41] at H
               have c41b0 := eq_true c41
               have c41b1 : decide (((x11_2 ++ (⟨#[32, 114, 101, 115, 116, 32]⟩ : ByteArray)) ++ t245).size + 1 ≤ 9223372036854775807) = true := decide_eq_true c41
               try have c41b2 : (9223372036854775807 < ((x11_2 ++ (⟨#[32, 114, 101, 115, 116, 32]⟩ : ByteArray)) ++ t245).size + 1) = False := eq_false (Nat.not_lt.2 c41)
               try have c41b4 : (9223372036854775807 < x11_2.size + 6 + t245.size + 1) = False := eq_false (by have h_ := c41; simp only [ByteArray.size_append] at h_; have e0_ : (⟨#[32, 114, 101, 115, 116, 32]⟩ : ByteArray).size = 6 := rfl; omega)
               replace H := Option.bind_eq_some_iff.mp H
               obtain ⟨t246, A420, H⟩ := H
               replace H : (if (((x11_2 ++ (⟨#[32, 114, 101, 115, 116, 32]⟩ : ByteArray)) ++ t245) ++ (⟨#[10]⟩ : ByteArray)).size + t246.size ≤ 9223372036854775807 then (some (t244.toList == ((((x11_2 ++ (⟨#[32, 114, 101, 115, 116, 32]⟩ : ByteArray)) ++ t245) ++ (⟨#[10]⟩ : ByteArray)) ++ t246).toList)) else (none)) = some r := H
               have A42 := am A420
               clear A420
               by_cases c43 : (((x11_2 ++ (⟨#[32, 114, 101, 115, 116, 32]⟩ : ByteArray)) ++ t245) ++ (⟨#[10]⟩ : ByteArray)).size + t246.size ≤ 9223372036854775807
               ·rw [if_pos c43] at H
                have c43b0 := eq_true c43
                have c43b1 : decide ((((x11_2 ++ (⟨#[32, 114, 101, 115, 116, 32]⟩ : ByteArray)) ++ t245) ++ (⟨#[10]⟩ : ByteArray)).size + t246.size ≤ 9223372036854775807) = true := decide_eq_true c43
                try have c43b2 : (9223372036854775807 < (((x11_2 ++ (⟨#[32, 114, 101, 115, 116, 32]⟩ : ByteArray)) ++ t245) ++ (⟨#[10]⟩ : ByteArray)).size + t246.size) = False := eq_false (Nat.not_lt.2 c43)
                try have c43b4 : (9223372036854775807 < x11_2.size + 6 + t245.size + 1 + t246.size) = False := eq_false (by have h_ := c43; simp only [ByteArray.size_append] at h_; have e0_ : (⟨#[32, 114, 101, 115, 116, 32]⟩ : ByteArray).size = 6 := rfl; have e1_ : (⟨#[10]⟩ : ByteArray).size = 1 := rfl; omega)
                obtain rfl := Option.some.inj H
                obtain ⟨Ao44, co44, eo44⟩ := Kd.R_slice HO_5.out
                subst eo44
                go_wp2_with (first | ((with_reducible refine gate_callee (f := 20) rfl ?_); refine goesL_ (some 81) rfl rfl Tryz.func20 (by kernel_rfl) rfl #[.int .i64 t226] rfl (by (try simp only [List.map_toArray, List.map_cons, List.map_nil]); first | done | rfl | (simp only [List.length_drop, List.length_take]; rfl)) ?_; (with_reducible refine (laws_digits.calls k2 t226 t242 _ A31.out).mono ?_); rintro e w45 ⟨rfl, hb⟩; refine ⟨_, rfl, ?_⟩; have n0_ := am (Kd.R_below (ru HO_5.out) hb); have n1_ := am (below_step (bu HB.out) hb); clear HO_5; clear HB; have HO_5 := n0_; have HB := n1_; clear n0_ n1_; (try clear hb); (try clear hb2); (try clear hk); (try clear hi)) | ((with_reducible refine gate_callee (f := 20) rfl ?_); refine goesL_ (some 85) rfl rfl Tryz.func20 (by kernel_rfl) rfl #[.int .i64 t227] rfl (by (try simp only [List.map_toArray, List.map_cons, List.map_nil]); first | done | rfl | (simp only [List.length_drop, List.length_take]; rfl)) ?_; (with_reducible refine (laws_digits.calls k2 t227 t243 _ A34.out).mono ?_); rintro e w46 ⟨rfl, hb⟩; refine ⟨_, rfl, ?_⟩; have n0_ := am (Kd.R_below (ru HO_5.out) hb); have n1_ := am (below_step (bu HB.out) hb); clear HO_5; clear HB; have HO_5 := n0_; have HB := n1_; clear n0_ n1_; (try clear hb); (try clear hb2); (try clear hk); (try clear hi)) | ((with_reducible refine gate_callee (f := 12) rfl ?_); refine goesL_ (some 88) rfl rfl Tryz.func12 (by kernel_rfl) rfl #[.string (((((⟨#[111, 114, 100, 111, 32]⟩ : ByteArray) ++ t242) ++ (⟨#[32]⟩ : ByteArray)) ++ t243) ++ (⟨#[10]⟩ : ByteArray))] rfl (by (try simp only [List.map_toArray, List.map_cons, List.map_nil]); first | done | rfl | (simp only [List.length_drop, List.length_take]; rfl)) ?_; (with_reducible refine (impl_Execute.calls k2 (((((⟨#[111, 114, 100, 111, 32]⟩ : ByteArray) ++ t242) ++ (⟨#[32]⟩ : ByteArray)) ++ t243) ++ (⟨#[10]⟩ : ByteArray)) t244 _ ?side1 A37.out).mono ?_); (case side1 => first | exact HTM.out | exact TabAt.below HTM.out (bu HB.out) | exact TabM.below HTM.out (bu HB.out) | (repeat (first | exact HTM.out | (with_reducible refine TabAt.drewN ?_ _) | (with_reducible refine TabAt.drew ?_) | (with_reducible refine TabAt.alloc ?_ _)))); rintro e w47 ⟨rfl, hb⟩; refine ⟨_, rfl, ?_⟩; have n0_ := am (Kd.R_below (ru HO_5.out) hb); have n1_ := am (below_step (bu HB.out) hb); clear HO_5; clear HB; have HO_5 := n0_; have HB := n1_; clear n0_ n1_; (try clear hb); (try clear hb2); (try clear hk); (try clear hi)) | ((with_reducible refine gate_callee (f := 20) rfl ?_); refine goesL_ (some 92) rfl rfl Tryz.func20 (by kernel_rfl) rfl #[.int .i64 t229] rfl (by (try simp only [List.map_toArray, List.map_cons, List.map_nil]); first | done | rfl | (simp only [List.length_drop, List.length_take]; rfl)) ?_; (with_reducible refine (laws_digits.calls k2 t229 t245 _ A39.out).mono ?_); rintro e w48 ⟨rfl, hb⟩; refine ⟨_, rfl, ?_⟩; have n0_ := am (Kd.R_below (ru HO_5.out) hb); have n1_ := am (below_step (bu HB.out) hb); clear HO_5; clear HB; have HO_5 := n0_; have HB := n1_; clear n0_ n1_; (try clear hb); (try clear hb2); (try clear hk); (try clear hi)) | ((with_reducible refine gate_callee (f := 21) rfl ?_); refine goesL_ (some 95) rfl rfl Tryz.func21 (by kernel_rfl) rfl #[.int .i64 0, .int .i64 0] rfl (by (try simp only [List.map_toArray, List.map_cons, List.map_nil]); first | done | rfl | (simp only [List.length_drop, List.length_take]; rfl)) ?_; (with_reducible refine (laws_endLine.calls k2 0 0 t246 _ A42.out).mono ?_); rintro e w49 ⟨rfl, hb⟩; refine ⟨_, rfl, ?_⟩; have n0_ := am (Kd.R_below (ru HO_5.out) hb); have n1_ := am (below_step (bu HB.out) hb); clear HO_5; clear HB; have HO_5 := n0_; have HB := n1_; clear n0_ n1_; (try clear hb); (try clear hb2); (try clear hk); (try clear hi)))
                go_ret
                exact ⟨by first | rfl | (simp [errW_none, errW_some] <;> rfl) | (simp [*, errW_none, errW_some] <;> rfl), bu HB.out⟩
               ·rw [if_neg c43] at H
                exact absurd H (by simp)
              ·rw [if_neg c41] at H
               exact absurd H (by simp)
             ·rw [if_neg c40] at H
              exact absurd H (by simp)
            ·rw [if_neg c38] at H
             exact absurd H (by simp)
           ·rw [if_neg c36] at H
            exact absurd H (by simp)
          ·rw [if_neg c35] at H
           exact absurd H (by simp)
         ·rw [if_neg c33] at H
          exact absurd H (by simp)
        ·rw [if_neg c32] at H
         exact absurd H (by simp)

end Go.Proofs.YtjnkmckklmabcaaGreatDoor.XO
