-- Made by this session's gprint.py out of the translation. Not trusted: Lean checks it.
import Derived.Test.YtdodkidnblmheaaDoorSLx0
import Derived.Test.YtdodkidnblmheaaDoorSLx2
namespace Go.Proofs.YtdodkidnblmheaaDoor.SL
open Go.RowKit Go.Proofs.YtdodkidnblmheaaDoorW.PrintWords Go.Proofs.YtdodkidnblmheaaDoorW.PrintLast Go.Proofs.YtdodkidnblmheaaDoorW.PrintMore
attribute [local go_sem] max2_int min2_int max_two min_two max_three min_three max_four min_four   -- for this text's walks alone
set_option linter.unusedVariables false
set_option linter.unusedSimpArgs false

/-! ### spec_l7Books: function 27 -/
mutual
def spec_l7Books.j0 : Nat → List ByteArray → Int → Bool → Option (Int × Bool)
 | 0, _, _, _ => none
 | k + 1, x0, x4, x17 => if x17 = true then (some (0, false)) else (spec_l7Books.l0 k x0 x4 0)
def spec_l7Books.l0 : Nat → List ByteArray → Int → Int → Option (Int × Bool)
 | 0, _, _, _ => none
 | k + 1, x0, x4, x5 => if x5 < (x0.length : Int) then (if 0 ≤ x5 then (if 0 < (x0.length : Int) then (if ((rdOf ByteArray.empty x0 x5).size : Int) = ((rdOf ByteArray.empty x0 0).size : Int) then ((spec_l7Reading.f k (rdOf ByteArray.empty x0 x5)).bind fun t210 => (if t210 = true then (spec_l7Books.j2 k x0 x4 x5 false) else ((spec_l7Lost.f k (rdOf ByteArray.empty x0 x5)).bind fun t212 => (spec_l7Books.j2 k x0 x4 x5 (!t212))))) else (spec_l7Books.j2 k x0 x4 x5 true)) else (none)) else (none)) else (some (x4, true))
def spec_l7Books.j2 : Nat → List ByteArray → Int → Int → Bool → Option (Int × Bool)
 | 0, _, _, _, _ => none
 | k + 1, x0, x4, x5, x49 => if x49 = true then (some (0, false)) else (if 0 ≤ x5 then (if x5 < (x0.length : Int) then ((spec_l7Lost.f k (rdOf ByteArray.empty x0 x5)).bind fun t214 => (if t214 = true then (spec_l7Books.l0 k x0 (wrap64 (x4 + 1)) (wrap64 (x5 + 1))) else (spec_l7Books.l0 k x0 x4 (wrap64 (x5 + 1))))) else (none)) else (none))
end
def spec_l7Books.f (k : Nat) (l0 : List ByteArray) : Option (Int × Bool) := (spec_l6In.f (l0.length : Int) 1 6).bind fun t204 => (if t204 = true then (if 0 < (l0.length : Int) then ((spec_l6In.f ((rdOf ByteArray.empty l0 0).size : Int) 1 8).bind fun t206 => (spec_l7Books.j0 k l0 0 (!t206))) else (none)) else (spec_l7Books.j0 k l0 0 true))
set_option maxHeartbeats 8000000 in
set_option maxRecDepth 100000 in
theorem spec_l7Books.calls (k : Nat) (A0 : Option Addr) (c0 : Nat) (l0 : List ByteArray) (r1 : Int) (r2 : Bool) (w : World) (hr0 : Kd.C Kd.string w A0 l0.length l0) (hc0 : l0.length ≤ c0) (h : spec_l7Books.f k l0 = some (r1, r2)) :
  Calls Tryd.prog 27 #[.slice A0 l0.length c0] w fun e w' => e = .returned (.tuple #[.int .i64 r1, .bool r2]) ∧ Drawn0 w w' := by
 have HR0 := am hr0
 have HC0 := am hc0
 clear hr0 hc0
 have H : ((spec_l6In.f (l0.length : Int) 1 6).bind fun t204 => (if t204 = true then (if 0 < (l0.length : Int) then ((spec_l6In.f ((rdOf ByteArray.empty l0 0).size : Int) 1 8).bind fun t206 => (spec_l7Books.j0 k l0 0 (!t206))) else (none)) else (spec_l7Books.j0 k l0 0 true))) = some (r1, r2) := h
 clear h
 have HC2 := am H
 clear H
 go_enter Tryd.func27, Tryd.ntmps27
 go_upto_region 2 with (fail)
 repeat (go_quiet (fail); go_upto_region 2 with (fail))
 go_cut [17] (fun v17 wc => ∃ (kq : Nat) (x17_1 : Bool), v17 = .bool x17_1 ∧ Aside0 (spec_l7Books.j0 kq l0 0 x17_1 = some (r1, r2)) ∧ Aside0 (kq ≤ k) ∧ Drawn0 w wc)
 case first =>
  have H := HC2.out
  clear HC2
  replace H := Option.bind_eq_some_iff.mp H
  obtain ⟨t204, A30, H⟩ := H
  replace H : (if t204 = true then (if 0 < (l0.length : Int) then ((spec_l6In.f ((rdOf ByteArray.empty l0 0).size : Int) 1 8).bind fun t206 => (spec_l7Books.j0 k l0 0 (!t206))) else (none)) else (spec_l7Books.j0 k l0 0 true)) = some (r1, r2) := H
  have A3 := am A30
  clear A30
  by_cases c4 : t204 = true
  ·subst c4
   have H1 : (if 0 < (l0.length : Int) then ((spec_l6In.f ((rdOf ByteArray.empty l0 0).size : Int) 1 8).bind fun t206 => (spec_l7Books.j0 k l0 0 (!t206))) else (none)) = some (r1, r2) := by rw [if_pos rfl] at H; exact H
   clear H
   have H := H1
   clear H1
   by_cases c5 : 0 < (l0.length : Int)
   ·rw [if_pos c5] at H
    have c5b0 : decide (0 < (l0.length : Int)) = true := decide_eq_true c5
    have c5b1 : decide (0 < l0.length) = true := decide_eq_true (by omega)
    clear c5
    (first | rw [c5b0] | (simp only [i64_w, i32_w]; rw [c5b0]) | skip)
    replace H := Option.bind_eq_some_iff.mp H
    obtain ⟨t206, A60, H⟩ := H
    replace H : (spec_l7Books.j0 k l0 0 (!t206)) = some (r1, r2) := H
    have A6 := am A60
    clear A60
    have H' := am H
    clear H
    go_wp2_with (first | (go_at_call 28; (with_reducible refine (spec_l6In.calls (l0.length : Int) 1 6 true _ A3.out).mono ?_); rintro e w' ⟨rfl, ⟨nd, rfl⟩⟩; (try first | exact ⟨rfl, _, World.drewN_drewN _ _ _⟩ | exact ⟨rfl, _, Eq.trans (World.drewN_drewN _ _ _) (congrArg (World.drewN _) (Nat.add_assoc _ _ _))⟩); have p205 : 0 ≤ (0 : Int) := (by omega); have q205 : 0 < (l0.length : Int) := od; obtain ⟨ad205, e205, hx205_0⟩ := Kd.at_string HR0.out 0 p205 q205; cases e205; have qi205 : (0 < l0.length) = True := eq_true (by omega); (try rw [show ((0 : Int)).toNat = 0 from rfl] at hx205_0); (try rw [Addr.add_zero'] at hx205_0); replace p205 := eq_true p205; replace q205 := eq_true q205) | (go_at_call 28; (with_reducible refine (spec_l6In.calls ((rdOf ByteArray.empty l0 0).size : Int) 1 8 t206 _ A6.out).mono ?_); rintro e w' ⟨rfl, ⟨nd, rfl⟩⟩; (try first | exact ⟨rfl, _, World.drewN_drewN _ _ _⟩ | exact ⟨rfl, _, Eq.trans (World.drewN_drewN _ _ _) (congrArg (World.drewN _) (Nat.add_assoc _ _ _))⟩)))
    repeat (go_quiet (first | (go_at_call 28; (with_reducible refine (spec_l6In.calls (l0.length : Int) 1 6 true _ A3.out).mono ?_); rintro e w' ⟨rfl, ⟨nd, rfl⟩⟩; (try first | exact ⟨rfl, _, World.drewN_drewN _ _ _⟩ | exact ⟨rfl, _, Eq.trans (World.drewN_drewN _ _ _) (congrArg (World.drewN _) (Nat.add_assoc _ _ _))⟩); have p205 : 0 ≤ (0 : Int) := (by omega); have q205 : 0 < (l0.length : Int) := od; obtain ⟨ad205, e205, hx205_0⟩ := Kd.at_string HR0.out 0 p205 q205; cases e205; have qi205 : (0 < l0.length) = True := eq_true (by omega); (try rw [show ((0 : Int)).toNat = 0 from rfl] at hx205_0); (try rw [Addr.add_zero'] at hx205_0); replace p205 := eq_true p205; replace q205 := eq_true q205) | (go_at_call 28; (with_reducible refine (spec_l6In.calls ((rdOf ByteArray.empty l0 0).size : Int) 1 8 t206 _ A6.out).mono ?_); rintro e w' ⟨rfl, ⟨nd, rfl⟩⟩; (try first | exact ⟨rfl, _, World.drewN_drewN _ _ _⟩ | exact ⟨rfl, _, Eq.trans (World.drewN_drewN _ _ _) (congrArg (World.drewN _) (Nat.add_assoc _ _ _))⟩))); try go_wp2_with (first | (go_at_call 28; (with_reducible refine (spec_l6In.calls (l0.length : Int) 1 6 true _ A3.out).mono ?_); rintro e w' ⟨rfl, ⟨nd, rfl⟩⟩; (try first | exact ⟨rfl, _, World.drewN_drewN _ _ _⟩ | exact ⟨rfl, _, Eq.trans (World.drewN_drewN _ _ _) (congrArg (World.drewN _) (Nat.add_assoc _ _ _))⟩); have p205 : 0 ≤ (0 : Int) := (by omega); have q205 : 0 < (l0.length : Int) := od; obtain ⟨ad205, e205, hx205_0⟩ := Kd.at_string HR0.out 0 p205 q205; cases e205; have qi205 : (0 < l0.length) = True := eq_true (by omega); (try rw [show ((0 : Int)).toNat = 0 from rfl] at hx205_0); (try rw [Addr.add_zero'] at hx205_0); replace p205 := eq_true p205; replace q205 := eq_true q205) | (go_at_call 28; (with_reducible refine (spec_l6In.calls ((rdOf ByteArray.empty l0 0).size : Int) 1 8 t206 _ A6.out).mono ?_); rintro e w' ⟨rfl, ⟨nd, rfl⟩⟩; (try first | exact ⟨rfl, _, World.drewN_drewN _ _ _⟩ | exact ⟨rfl, _, Eq.trans (World.drewN_drewN _ _ _) (congrArg (World.drewN _) (Nat.add_assoc _ _ _))⟩))))
    go_meet
    case rel => exact ⟨_, (!t206), (by first | rfl | (simp; done) | (simp [*]; done)), H', ⟨by first | omega | exact Nat.le_refl _⟩, by repeat (first | exact Drawn0.refl _ | apply Drawn0.step)⟩
   ·rw [if_neg c5] at H
    exact absurd H (by simp)
  ·replace c4 := Bool.eq_false_iff.mpr c4
   subst c4
   have H1 : (spec_l7Books.j0 k l0 0 true) = some (r1, r2) := by rw [if_neg (show ¬ (false = true) by decide)] at H; exact H
   clear H
   have H := H1
   clear H1
   have H' := am H
   clear H
   go_wp2_with (first | (go_at_call 28; (with_reducible refine (spec_l6In.calls (l0.length : Int) 1 6 false _ A3.out).mono ?_); rintro e w' ⟨rfl, ⟨nd, rfl⟩⟩; (try first | exact ⟨rfl, _, World.drewN_drewN _ _ _⟩ | exact ⟨rfl, _, Eq.trans (World.drewN_drewN _ _ _) (congrArg (World.drewN _) (Nat.add_assoc _ _ _))⟩)))
   repeat (go_quiet (first | (go_at_call 28; (with_reducible refine (spec_l6In.calls (l0.length : Int) 1 6 false _ A3.out).mono ?_); rintro e w' ⟨rfl, ⟨nd, rfl⟩⟩; (try first | exact ⟨rfl, _, World.drewN_drewN _ _ _⟩ | exact ⟨rfl, _, Eq.trans (World.drewN_drewN _ _ _) (congrArg (World.drewN _) (Nat.add_assoc _ _ _))⟩))); try go_wp2_with (first | (go_at_call 28; (with_reducible refine (spec_l6In.calls (l0.length : Int) 1 6 false _ A3.out).mono ?_); rintro e w' ⟨rfl, ⟨nd, rfl⟩⟩; (try first | exact ⟨rfl, _, World.drewN_drewN _ _ _⟩ | exact ⟨rfl, _, Eq.trans (World.drewN_drewN _ _ _) (congrArg (World.drewN _) (Nat.add_assoc _ _ _))⟩))))
   go_meet
   case rel => exact ⟨_, (true), (by first | rfl | (simp; done) | (simp [*]; done)), H', ⟨by first | omega | exact Nat.le_refl _⟩, by repeat (first | exact Drawn0.refl _ | apply Drawn0.step)⟩
 case rest =>
  clear HC2
  try clear c2
  try clear p2
  try clear q2
  try clear hx2
  try clear qi2
  try clear c4
  try clear c5
  try clear c5b0
  try clear c5b1
  try clear hx205_0
  try clear p205
  try clear q205
  obtain ⟨kq, x17_1, rfl, HA, HJ1, ⟨mc1, rfl⟩⟩ := hcut
  cases kq with
  | zero => exact absurd HA.out (by simp [spec_l7Books.j0])
  | succ kj1 =>
   have H := HA.out
   clear HA
   simp only [spec_l7Books.j0] at H
   by_cases c7 : x17_1 = true
   ·subst c7
    have H1 : (some (0, false)) = some (r1, r2) := by rw [if_pos rfl] at H; exact H
    clear H
    have H := H1
    clear H1
    simp only [Option.some.injEq, Prod.mk.injEq] at H
    obtain ⟨rfl, rfl⟩ := H
    go_wp2
    repeat (go_quiet (fail); try go_wp2)
    go_ret2
    exact ⟨by first | rfl | (simp; done) | (simp [*]; done), by repeat (first | exact Drawn0.refl _ | apply Drawn0.step)⟩
   ·replace c7 := Bool.eq_false_iff.mpr c7
    subst c7
    have H1 : (spec_l7Books.l0 kj1 l0 0 0) = some (r1, r2) := by rw [if_neg (show ¬ (false = true) by decide)] at H; exact H
    clear H
    have H := H1
    clear H1
    have H' := am H
    clear H
    go_wp2
    repeat (go_quiet (fail); try go_wp2)
    go_loopg [4, 5] kj1 (fun kq v4 v5 w' => ∃ (x4_2 : Int) (x5_2 : Int), v4 = .int .i64 x4_2 ∧ v5 = .int .i64 x5_2 ∧ Aside0 (spec_l7Books.l0 kq l0 x4_2 x5_2 = some (r1, r2)) ∧ Aside0 (kq ≤ kj1) ∧ Drawn0 w w')
    case atStart => exact ⟨(0), (0), (by first | rfl | (simp; done) | (simp [*]; done)), (by first | rfl | (simp; done) | (simp [*]; done)), H', ⟨Nat.le_refl _⟩, by repeat (first | exact Drawn0.refl _ | apply Drawn0.step)⟩
    case round =>
     clear H'
     try clear c1
     try clear c2
     try clear p2
     try clear q2
     try clear hx2
     try clear qi2
     try clear c4
     try clear c5
     try clear c5b0
     try clear c5b1
     try clear c7
     try clear hx205_0
     try clear p2
     try clear p205
     try clear q2
     try clear q205
     obtain ⟨x4_2, x5_2, rfl, rfl, HA, HK2, ⟨m2, rfl⟩⟩ := hrel
     cases gk with
     | zero => exact absurd HA.out (by simp [spec_l7Books.l0])
     | succ k2 =>
      have H := HA.out
      clear HA
      simp only [spec_l7Books.l0] at H
      by_cases c8 : x5_2 < (l0.length : Int)
      ·rw [if_pos c8] at H
       have c8b0 : decide (x5_2 < (l0.length : Int)) = true := decide_eq_true c8
       clear c8
       have HC9 := am H
       clear H
       go_upto_region 7 with (fail)
       repeat (go_quiet (fail); go_upto_region 7 with (fail))
       go_cut [49] (fun v49 wc => ∃ (kq : Nat) (x49_8 : Bool), v49 = .bool x49_8 ∧ Aside0 (spec_l7Books.j2 kq l0 x4_2 x5_2 x49_8 = some (r1, r2)) ∧ Aside0 (kq ≤ k2) ∧ Drawn0 w wc)
       case first =>
        have H := HC9.out
        clear HC9
        by_cases c10 : 0 ≤ x5_2
        ·rw [if_pos c10] at H
         have c10b0 : decide (0 ≤ x5_2) = true := decide_eq_true c10
         clear c10
         (first | rw [c10b0] | (simp only [i64_w, i32_w]; rw [c10b0]) | skip)
         by_cases c11 : 0 < (l0.length : Int)
         ·rw [if_pos c11] at H
          have c11b0 : decide (0 < (l0.length : Int)) = true := decide_eq_true c11
          have c11b1 : decide (0 < l0.length) = true := decide_eq_true (by omega)
          clear c11
          by_cases c12 : ((rdOf ByteArray.empty l0 x5_2).size : Int) = ((rdOf ByteArray.empty l0 0).size : Int)
          ·rw [if_pos c12] at H
           have c12b0 : (((rdOf ByteArray.empty l0 x5_2).size : Int) == ((rdOf ByteArray.empty l0 0).size : Int)) = true := beq_iff_eq.mpr c12
           have c12b1 : (((rdOf ByteArray.empty l0 x5_2).size : Int) != ((rdOf ByteArray.empty l0 0).size : Int)) = false := bne_eq_false_iff_eq.mpr c12
           have c12b2 : ((rdOf ByteArray.empty l0 x5_2).size == (rdOf ByteArray.empty l0 0).size) = true := by first | simpa using c12 | (simp at c12 ⊢; omega)
           clear c12
           replace H := Option.bind_eq_some_iff.mp H
           obtain ⟨t210, A130, H⟩ := H
           replace H : (if t210 = true then (spec_l7Books.j2 k2 l0 x4_2 x5_2 false) else ((spec_l7Lost.f k2 (rdOf ByteArray.empty l0 x5_2)).bind fun t212 => (spec_l7Books.j2 k2 l0 x4_2 x5_2 (!t212)))) = some (r1, r2) := H
           have A13 := am A130
           clear A130
           by_cases c14 : t210 = true
           ·subst c14
            have H1 : (spec_l7Books.j2 k2 l0 x4_2 x5_2 false) = some (r1, r2) := by rw [if_pos rfl] at H; exact H
            clear H
            have H := H1
            clear H1
            have H' := am H
            clear H
            have p207 : 0 ≤ (x5_2 : Int) := od
            have q207 : x5_2 < (l0.length : Int) := od
            obtain ⟨ad207, e207, hx207_0⟩ := Kd.at_string HR0.out x5_2 p207 q207
            cases e207
            replace p207 := eq_true p207
            replace q207 := eq_true q207
            have p208 : 0 ≤ (0 : Int) := (by omega)
            have q208 : 0 < (l0.length : Int) := od
            obtain ⟨ad208, e208, hx208_0⟩ := Kd.at_string HR0.out 0 p208 q208
            obtain rfl : ad207 = ad208 := (by injection e208)
            have qi208 : (0 < l0.length) = True := eq_true (by omega)
            (try rw [show ((0 : Int)).toNat = 0 from rfl] at hx208_0)
            (try rw [Addr.add_zero'] at hx208_0)
            replace p208 := eq_true p208
            replace q208 := eq_true q208
            have p209 : 0 ≤ (x5_2 : Int) := od
            have q209 : x5_2 < (l0.length : Int) := od
            obtain ⟨ad209, e209, hx209_0⟩ := Kd.at_string HR0.out x5_2 p209 q209
            obtain rfl : ad207 = ad209 := (by injection e209)
            replace p209 := eq_true p209
            replace q209 := eq_true q209
            go_wp2_with (first | (go_at_call 33; (with_reducible refine (spec_l7Reading.calls k2 (rdOf ByteArray.empty l0 x5_2) true _ A13.out).mono ?_); rintro e w' ⟨rfl, ⟨nd, rfl⟩⟩; (try first | exact ⟨rfl, _, World.drewN_drewN _ _ _⟩ | exact ⟨rfl, _, Eq.trans (World.drewN_drewN _ _ _) (congrArg (World.drewN _) (Nat.add_assoc _ _ _))⟩)))
            repeat (go_quiet (first | (go_at_call 33; (with_reducible refine (spec_l7Reading.calls k2 (rdOf ByteArray.empty l0 x5_2) true _ A13.out).mono ?_); rintro e w' ⟨rfl, ⟨nd, rfl⟩⟩; (try first | exact ⟨rfl, _, World.drewN_drewN _ _ _⟩ | exact ⟨rfl, _, Eq.trans (World.drewN_drewN _ _ _) (congrArg (World.drewN _) (Nat.add_assoc _ _ _))⟩))); try go_wp2_with (first | (go_at_call 33; (with_reducible refine (spec_l7Reading.calls k2 (rdOf ByteArray.empty l0 x5_2) true _ A13.out).mono ?_); rintro e w' ⟨rfl, ⟨nd, rfl⟩⟩; (try first | exact ⟨rfl, _, World.drewN_drewN _ _ _⟩ | exact ⟨rfl, _, Eq.trans (World.drewN_drewN _ _ _) (congrArg (World.drewN _) (Nat.add_assoc _ _ _))⟩))))
            go_meet
            case rel => exact ⟨_, (false), (by first | rfl | (simp; done) | (simp [*]; done)), H', ⟨by have := HJ1.out; have := HK2.out; first | omega | exact Nat.le_refl _⟩, by repeat (first | exact Drawn0.refl _ | apply Drawn0.step)⟩
           ·replace c14 := Bool.eq_false_iff.mpr c14
            subst c14
            have H1 : ((spec_l7Lost.f k2 (rdOf ByteArray.empty l0 x5_2)).bind fun t212 => (spec_l7Books.j2 k2 l0 x4_2 x5_2 (!t212))) = some (r1, r2) := by rw [if_neg (show ¬ (false = true) by decide)] at H; exact H
            clear H
            have H := H1
            clear H1
            replace H := Option.bind_eq_some_iff.mp H
            obtain ⟨t212, A150, H⟩ := H
            replace H : (spec_l7Books.j2 k2 l0 x4_2 x5_2 (!t212)) = some (r1, r2) := H
            have A15 := am A150
            clear A150
            have H' := am H
            clear H
            have p207 : 0 ≤ (x5_2 : Int) := od
            have q207 : x5_2 < (l0.length : Int) := od
            obtain ⟨ad207, e207, hx207_0⟩ := Kd.at_string HR0.out x5_2 p207 q207
            cases e207
            replace p207 := eq_true p207
            replace q207 := eq_true q207
            have p208 : 0 ≤ (0 : Int) := (by omega)
            have q208 : 0 < (l0.length : Int) := od
            obtain ⟨ad208, e208, hx208_0⟩ := Kd.at_string HR0.out 0 p208 q208
            obtain rfl : ad207 = ad208 := (by injection e208)
            have qi208 : (0 < l0.length) = True := eq_true (by omega)
            (try rw [show ((0 : Int)).toNat = 0 from rfl] at hx208_0)
            (try rw [Addr.add_zero'] at hx208_0)
            replace p208 := eq_true p208
            replace q208 := eq_true q208
            have p209 : 0 ≤ (x5_2 : Int) := od
            have q209 : x5_2 < (l0.length : Int) := od
            obtain ⟨ad209, e209, hx209_0⟩ := Kd.at_string HR0.out x5_2 p209 q209
            obtain rfl : ad207 = ad209 := (by injection e209)
            replace p209 := eq_true p209
            replace q209 := eq_true q209
            go_wp2_with (first | (go_at_call 33; (with_reducible refine (spec_l7Reading.calls k2 (rdOf ByteArray.empty l0 x5_2) false _ A13.out).mono ?_); rintro e w' ⟨rfl, ⟨nd, rfl⟩⟩; (try first | exact ⟨rfl, _, World.drewN_drewN _ _ _⟩ | exact ⟨rfl, _, Eq.trans (World.drewN_drewN _ _ _) (congrArg (World.drewN _) (Nat.add_assoc _ _ _))⟩); have p211 : 0 ≤ (x5_2 : Int) := od; have q211 : x5_2 < (l0.length : Int) := od; obtain ⟨ad211, e211, hx211_0⟩ := Kd.at_string HR0.out x5_2 p211 q211; obtain rfl : ad207 = ad211 := (by injection e211); replace p211 := eq_true p211; replace q211 := eq_true q211) | (go_at_call 34; (with_reducible refine (spec_l7Lost.calls k2 (rdOf ByteArray.empty l0 x5_2) t212 _ A15.out).mono ?_); rintro e w' ⟨rfl, ⟨nd, rfl⟩⟩; (try first | exact ⟨rfl, _, World.drewN_drewN _ _ _⟩ | exact ⟨rfl, _, Eq.trans (World.drewN_drewN _ _ _) (congrArg (World.drewN _) (Nat.add_assoc _ _ _))⟩)))
            repeat (go_quiet (first | (go_at_call 33; (with_reducible refine (spec_l7Reading.calls k2 (rdOf ByteArray.empty l0 x5_2) false _ A13.out).mono ?_); rintro e w' ⟨rfl, ⟨nd, rfl⟩⟩; (try first | exact ⟨rfl, _, World.drewN_drewN _ _ _⟩ | exact ⟨rfl, _, Eq.trans (World.drewN_drewN _ _ _) (congrArg (World.drewN _) (Nat.add_assoc _ _ _))⟩); have p211 : 0 ≤ (x5_2 : Int) := od; have q211 : x5_2 < (l0.length : Int) := od; obtain ⟨ad211, e211, hx211_0⟩ := Kd.at_string HR0.out x5_2 p211 q211; obtain rfl : ad207 = ad211 := (by injection e211); replace p211 := eq_true p211; replace q211 := eq_true q211) | (go_at_call 34; (with_reducible refine (spec_l7Lost.calls k2 (rdOf ByteArray.empty l0 x5_2) t212 _ A15.out).mono ?_); rintro e w' ⟨rfl, ⟨nd, rfl⟩⟩; (try first | exact ⟨rfl, _, World.drewN_drewN _ _ _⟩ | exact ⟨rfl, _, Eq.trans (World.drewN_drewN _ _ _) (congrArg (World.drewN _) (Nat.add_assoc _ _ _))⟩))); try go_wp2_with (first | (go_at_call 33; (with_reducible refine (spec_l7Reading.calls k2 (rdOf ByteArray.empty l0 x5_2) false _ A13.out).mono ?_); rintro e w' ⟨rfl, ⟨nd, rfl⟩⟩; (try first | exact ⟨rfl, _, World.drewN_drewN _ _ _⟩ | exact ⟨rfl, _, Eq.trans (World.drewN_drewN _ _ _) (congrArg (World.drewN _) (Nat.add_assoc _ _ _))⟩); have p211 : 0 ≤ (x5_2 : Int) := od; have q211 : x5_2 < (l0.length : Int) := od; obtain ⟨ad211, e211, hx211_0⟩ := Kd.at_string HR0.out x5_2 p211 q211; obtain rfl : ad207 = ad211 := (by injection e211); replace p211 := eq_true p211; replace q211 := eq_true q211) | (go_at_call 34; (with_reducible refine (spec_l7Lost.calls k2 (rdOf ByteArray.empty l0 x5_2) t212 _ A15.out).mono ?_); rintro e w' ⟨rfl, ⟨nd, rfl⟩⟩; (try first | exact ⟨rfl, _, World.drewN_drewN _ _ _⟩ | exact ⟨rfl, _, Eq.trans (World.drewN_drewN _ _ _) (congrArg (World.drewN _) (Nat.add_assoc _ _ _))⟩))))
            go_meet
            case rel => exact ⟨_, (!t212), (by first | rfl | (simp; done) | (simp [*]; done)), H', ⟨by have := HJ1.out; have := HK2.out; first | omega | exact Nat.le_refl _⟩, by repeat (first | exact Drawn0.refl _ | apply Drawn0.step)⟩
          ·rw [if_neg c12] at H
           have c12b0 : (((rdOf ByteArray.empty l0 x5_2).size : Int) == ((rdOf ByteArray.empty l0 0).size : Int)) = false := beq_eq_false_iff_ne.mpr c12
           have c12b1 : (((rdOf ByteArray.empty l0 x5_2).size : Int) != ((rdOf ByteArray.empty l0 0).size : Int)) = true := bne_iff_ne.mpr c12
           have c12b2 : ((rdOf ByteArray.empty l0 x5_2).size == (rdOf ByteArray.empty l0 0).size) = false := by first | simpa using c12 | (simp at c12 ⊢; omega)
           have H' := am H
           clear H
           have p207 : 0 ≤ (x5_2 : Int) := od
           have q207 : x5_2 < (l0.length : Int) := od
           obtain ⟨ad207, e207, hx207_0⟩ := Kd.at_string HR0.out x5_2 p207 q207
           cases e207
           replace p207 := eq_true p207
           replace q207 := eq_true q207
           have p208 : 0 ≤ (0 : Int) := (by omega)
           have q208 : 0 < (l0.length : Int) := od
           obtain ⟨ad208, e208, hx208_0⟩ := Kd.at_string HR0.out 0 p208 q208
           obtain rfl : ad207 = ad208 := (by injection e208)
           have qi208 : (0 < l0.length) = True := eq_true (by omega)
           (try rw [show ((0 : Int)).toNat = 0 from rfl] at hx208_0)
           (try rw [Addr.add_zero'] at hx208_0)
           replace p208 := eq_true p208
           replace q208 := eq_true q208
           go_wp2
           repeat (go_quiet (fail); try go_wp2)
           go_meet
           case rel => exact ⟨_, (true), (by first | rfl | (simp; done) | (simp [*]; done)), H', ⟨by have := HJ1.out; have := HK2.out; first | omega | exact Nat.le_refl _⟩, by repeat (first | exact Drawn0.refl _ | apply Drawn0.step)⟩
         ·rw [if_neg c11] at H
          exact absurd H (by simp)
        ·rw [if_neg c10] at H
         exact absurd H (by simp)
       case rest =>
        clear HC9
        try clear c1
        try clear c2
        try clear p2
        try clear q2
        try clear hx2
        try clear qi2
        try clear c4
        try clear c5
        try clear c5b0
        try clear c5b1
        try clear c7
        try clear c8
        try clear c8b0
        try clear c10
        try clear c10b0
        try clear c11
        try clear c11b0
        try clear c11b1
        try clear c12
        try clear c12b0
        try clear c12b1
        try clear c12b2
        try clear c14
        try clear hx205_0
        try clear hx207_0
        try clear hx208_0
        try clear hx209_0
        try clear hx211_0
        try clear p2
        try clear p205
        try clear p207
        try clear p208
        try clear p209
        try clear p211
        try clear q2
        try clear q205
        try clear q207
        try clear q208
        try clear q209
        try clear q211
        obtain ⟨kq, x49_8, rfl, HA, HJ8, ⟨mc8, rfl⟩⟩ := hcut
        cases kq with
        | zero => exact absurd HA.out (by simp [spec_l7Books.j2])
        | succ kj8 =>
         have H := HA.out
         clear HA
         simp only [spec_l7Books.j2] at H
         by_cases c16 : x49_8 = true
         ·subst c16
          have H1 : (some (0, false)) = some (r1, r2) := by rw [if_pos rfl] at H; exact H
          clear H
          have H := H1
          clear H1
          simp only [Option.some.injEq, Prod.mk.injEq] at H
          obtain ⟨rfl, rfl⟩ := H
          go_wp2
          repeat (go_quiet (fail); try go_wp2)
          go_ret2
          exact ⟨by first | rfl | (simp; done) | (simp [*]; done), by repeat (first | exact Drawn0.refl _ | apply Drawn0.step)⟩
         ·replace c16 := Bool.eq_false_iff.mpr c16
          subst c16
          have H1 : (if 0 ≤ x5_2 then (if x5_2 < (l0.length : Int) then ((spec_l7Lost.f kj8 (rdOf ByteArray.empty l0 x5_2)).bind fun t214 => (if t214 = true then (spec_l7Books.l0 kj8 l0 (wrap64 (x4_2 + 1)) (wrap64 (x5_2 + 1))) else (spec_l7Books.l0 kj8 l0 x4_2 (wrap64 (x5_2 + 1))))) else (none)) else (none)) = some (r1, r2) := by rw [if_neg (show ¬ (false = true) by decide)] at H; exact H
          clear H
          have H := H1
          clear H1
          by_cases c17 : 0 ≤ x5_2
          ·rw [if_pos c17] at H
           have c17b0 : decide (0 ≤ x5_2) = true := decide_eq_true c17
           clear c17
           by_cases c18 : x5_2 < (l0.length : Int)
           ·rw [if_pos c18] at H
            have c18b0 : decide (x5_2 < (l0.length : Int)) = true := decide_eq_true c18
            clear c18
            replace H := Option.bind_eq_some_iff.mp H
            obtain ⟨t214, A190, H⟩ := H
            replace H : (if t214 = true then (spec_l7Books.l0 kj8 l0 (wrap64 (x4_2 + 1)) (wrap64 (x5_2 + 1))) else (spec_l7Books.l0 kj8 l0 x4_2 (wrap64 (x5_2 + 1)))) = some (r1, r2) := H
            have A19 := am A190
            clear A190
            by_cases c20 : t214 = true
            ·subst c20
             have H1 : (spec_l7Books.l0 kj8 l0 (wrap64 (x4_2 + 1)) (wrap64 (x5_2 + 1))) = some (r1, r2) := by rw [if_pos rfl] at H; exact H
             clear H
             have H := H1
             clear H1
             have H' := am H
             clear H
             have p213 : 0 ≤ (x5_2 : Int) := od
             have q213 : x5_2 < (l0.length : Int) := od
             obtain ⟨ad213, e213, hx213_0⟩ := Kd.at_string HR0.out x5_2 p213 q213
             cases e213
             replace p213 := eq_true p213
             replace q213 := eq_true q213
             go_wp2_with (first | (go_at_call 34; (with_reducible refine (spec_l7Lost.calls kj8 (rdOf ByteArray.empty l0 x5_2) true _ A19.out).mono ?_); rintro e w' ⟨rfl, ⟨nd, rfl⟩⟩; (try first | exact ⟨rfl, _, World.drewN_drewN _ _ _⟩ | exact ⟨rfl, _, Eq.trans (World.drewN_drewN _ _ _) (congrArg (World.drewN _) (Nat.add_assoc _ _ _))⟩)))
             repeat (go_quiet (first | (go_at_call 34; (with_reducible refine (spec_l7Lost.calls kj8 (rdOf ByteArray.empty l0 x5_2) true _ A19.out).mono ?_); rintro e w' ⟨rfl, ⟨nd, rfl⟩⟩; (try first | exact ⟨rfl, _, World.drewN_drewN _ _ _⟩ | exact ⟨rfl, _, Eq.trans (World.drewN_drewN _ _ _) (congrArg (World.drewN _) (Nat.add_assoc _ _ _))⟩))); try go_wp2_with (first | (go_at_call 34; (with_reducible refine (spec_l7Lost.calls kj8 (rdOf ByteArray.empty l0 x5_2) true _ A19.out).mono ?_); rintro e w' ⟨rfl, ⟨nd, rfl⟩⟩; (try first | exact ⟨rfl, _, World.drewN_drewN _ _ _⟩ | exact ⟨rfl, _, Eq.trans (World.drewN_drewN _ _ _) (congrArg (World.drewN _) (Nat.add_assoc _ _ _))⟩))))
             go_roundg kj8
             case measure => have := HJ1.out; have := HK2.out; have := HJ8.out; omega
             case rel => exact ⟨(wrap64 (x4_2 + 1)), (wrap64 (x5_2 + 1)), (by first | rfl | (simp; done) | (simp [*]; done)), (by first | rfl | (simp; done) | (simp [*]; done)), H', ⟨by have := HJ1.out; have := HK2.out; have := HJ8.out; omega⟩, by repeat (first | exact Drawn0.refl _ | apply Drawn0.step)⟩
            ·replace c20 := Bool.eq_false_iff.mpr c20
             subst c20
             have H1 : (spec_l7Books.l0 kj8 l0 x4_2 (wrap64 (x5_2 + 1))) = some (r1, r2) := by rw [if_neg (show ¬ (false = true) by decide)] at H; exact H
             clear H
             have H := H1
             clear H1
             have H' := am H
             clear H
             have p213 : 0 ≤ (x5_2 : Int) := od
             have q213 : x5_2 < (l0.length : Int) := od
             obtain ⟨ad213, e213, hx213_0⟩ := Kd.at_string HR0.out x5_2 p213 q213
             cases e213
             replace p213 := eq_true p213
             replace q213 := eq_true q213
             go_wp2_with (first | (go_at_call 34; (with_reducible refine (spec_l7Lost.calls kj8 (rdOf ByteArray.empty l0 x5_2) false _ A19.out).mono ?_); rintro e w' ⟨rfl, ⟨nd, rfl⟩⟩; (try first | exact ⟨rfl, _, World.drewN_drewN _ _ _⟩ | exact ⟨rfl, _, Eq.trans (World.drewN_drewN _ _ _) (congrArg (World.drewN _) (Nat.add_assoc _ _ _))⟩)))
             repeat (go_quiet (first | (go_at_call 34; (with_reducible refine (spec_l7Lost.calls kj8 (rdOf ByteArray.empty l0 x5_2) false _ A19.out).mono ?_); rintro e w' ⟨rfl, ⟨nd, rfl⟩⟩; (try first | exact ⟨rfl, _, World.drewN_drewN _ _ _⟩ | exact ⟨rfl, _, Eq.trans (World.drewN_drewN _ _ _) (congrArg (World.drewN _) (Nat.add_assoc _ _ _))⟩))); try go_wp2_with (first | (go_at_call 34; (with_reducible refine (spec_l7Lost.calls kj8 (rdOf ByteArray.empty l0 x5_2) false _ A19.out).mono ?_); rintro e w' ⟨rfl, ⟨nd, rfl⟩⟩; (try first | exact ⟨rfl, _, World.drewN_drewN _ _ _⟩ | exact ⟨rfl, _, Eq.trans (World.drewN_drewN _ _ _) (congrArg (World.drewN _) (Nat.add_assoc _ _ _))⟩))))
             go_roundg kj8
             case measure => have := HJ1.out; have := HK2.out; have := HJ8.out; omega
             case rel => exact ⟨(x4_2), (wrap64 (x5_2 + 1)), (by first | rfl | (simp; done) | (simp [*]; done)), (by first | rfl | (simp; done) | (simp [*]; done)), H', ⟨by have := HJ1.out; have := HK2.out; have := HJ8.out; omega⟩, by repeat (first | exact Drawn0.refl _ | apply Drawn0.step)⟩
           ·rw [if_neg c18] at H
            exact absurd H (by simp)
          ·rw [if_neg c17] at H
           exact absurd H (by simp)
      ·rw [if_neg c8] at H
       have c8b0 : decide (x5_2 < (l0.length : Int)) = false := decide_eq_false c8
       clear c8
       simp only [Option.some.injEq, Prod.mk.injEq] at H
       obtain ⟨rfl, rfl⟩ := H
       go_wp2
       repeat (go_quiet (fail); try go_wp2)
       go_ret2
       exact ⟨by first | rfl | (simp; done) | (simp [*]; done), by repeat (first | exact Drawn0.refl _ | apply Drawn0.step)⟩

/-! ### spec_StemValid: function 17 -/
mutual
def spec_StemValid.j0 : Nat → List Int → Bool → Option (Bool)
 | 0, _, _ => none
 | k + 1, x1, x33 => if x33 = true then (some false) else (spec_StemValid.l0 k x1 1)
def spec_StemValid.l0 : Nat → List Int → Int → Option (Bool)
 | 0, _, _ => none
 | k + 1, x1, x7 => if x7 < (x1.length : Int) then (if 0 ≤ x7 then ((spec_l6In.f (rd x1 x7) 0 (wrap64 (x7 - 1))).bind fun t219 => (if t219 = true then (spec_StemValid.l0 k x1 (wrap64 (x7 + 1))) else (some false))) else (none)) else (some true)
end
def spec_StemValid.f (k : Nat) (l0 : List ByteArray) (l1 : List Int) : Option (Bool) := (spec_l7Books.f k l0).bind fun bt215 => (if bt215.2 = true then (if bt215.1 = (l0.length : Int) then (spec_StemValid.j0 k l1 true) else (if (l1.length : Int) = (l0.length : Int) then (if 0 < (l1.length : Int) then (spec_StemValid.j0 k l1 ((rd l1 0) != (-1))) else (none)) else (spec_StemValid.j0 k l1 true))) else (spec_StemValid.j0 k l1 true))
set_option maxHeartbeats 8000000 in
set_option maxRecDepth 100000 in
theorem spec_StemValid.calls (k : Nat) (A0 : Option Addr) (c0 : Nat) (l0 : List ByteArray) (A1 : Option Addr) (c1 : Nat) (l1 : List Int) (r : Bool) (w : World) (hr0 : Kd.C Kd.string w A0 l0.length l0) (hc0 : l0.length ≤ c0) (hr1 : Kd.C (Kd.int .i64) w A1 l1.length l1) (hc1 : l1.length ≤ c1) (h : spec_StemValid.f k l0 l1 = some r) :
  Calls Tryd.prog 17 #[.slice A0 l0.length c0, .slice A1 l1.length c1] w fun e w' => e = .returned (.bool r) ∧ Drawn0 w w' := by
 have HR0 := am hr0
 have HC0 := am hc0
 clear hr0 hc0
 have HR1 := am hr1
 have HC1 := am hc1
 clear hr1 hc1
 have H : ((spec_l7Books.f k l0).bind fun bt215 => (if bt215.2 = true then (if bt215.1 = (l0.length : Int) then (spec_StemValid.j0 k l1 true) else (if (l1.length : Int) = (l0.length : Int) then (if 0 < (l1.length : Int) then (spec_StemValid.j0 k l1 ((rd l1 0) != (-1))) else (none)) else (spec_StemValid.j0 k l1 true))) else (spec_StemValid.j0 k l1 true))) = some r := h
 clear h
 replace H := Option.bind_eq_some_iff.mp H
 obtain ⟨⟨t215, t216⟩, A30, H⟩ := H
 replace H : (if t216 = true then (if t215 = (l0.length : Int) then (spec_StemValid.j0 k l1 true) else (if (l1.length : Int) = (l0.length : Int) then (if 0 < (l1.length : Int) then (spec_StemValid.j0 k l1 ((rd l1 0) != (-1))) else (none)) else (spec_StemValid.j0 k l1 true))) else (spec_StemValid.j0 k l1 true)) = some r := H
 have A3 := am A30
 clear A30
 have HC4 := am H
 clear H
 go_enter Tryd.func17, Tryd.ntmps17
 go_upto_region 2 with (first | ((with_reducible refine gate_callee (f := 27) rfl ?_); refine goesL_ (some 10) rfl rfl Tryd.func27 (by kernel_rfl) rfl #[.slice A0 l0.length c0] rfl (by (try simp only [List.map_toArray, List.map_cons, List.map_nil]); first | done | rfl | (simp only [List.length_drop, List.length_take]; rfl)) ?_; (with_reducible refine (spec_l7Books.calls k _ _ l0 t215 t216 _ ?side1 ?side2 A3.out).mono ?_); (case side1 => exact cu HR0.out); (case side2 => exact HC0.out); rintro e w' ⟨rfl, ⟨nd, rfl⟩⟩; refine ⟨_, rfl, ?_⟩))
 (try simp only [Act.put, sA, sZ, sS])
 go_cut [33] (fun v33 wc => ∃ (kq : Nat) (x33_3 : Bool), v33 = .bool x33_3 ∧ Aside0 (spec_StemValid.j0 kq l1 x33_3 = some r) ∧ Aside0 (kq ≤ k) ∧ Drawn0 w wc)
 case first =>
  have H := HC4.out
  clear HC4
  by_cases c5 : t216 = true
  ·subst c5
   have H1 : (if t215 = (l0.length : Int) then (spec_StemValid.j0 k l1 true) else (if (l1.length : Int) = (l0.length : Int) then (if 0 < (l1.length : Int) then (spec_StemValid.j0 k l1 ((rd l1 0) != (-1))) else (none)) else (spec_StemValid.j0 k l1 true))) = some r := by rw [if_pos rfl] at H; exact H
   clear H
   have H := H1
   clear H1
   by_cases c6 : t215 = (l0.length : Int)
   ·rw [if_pos c6] at H
    have c6b0 : (t215 == (l0.length : Int)) = true := beq_iff_eq.mpr c6
    have c6b1 : (t215 != (l0.length : Int)) = false := bne_eq_false_iff_eq.mpr c6
    clear c6
    (first | rw [c6b0] | (simp only [i64_w, i32_w]; rw [c6b0]) | skip)
    have H' := am H
    clear H
    go_wp2
    go_meet
    case rel => exact ⟨_, (true), (by first | rfl | (simp; done) | (simp [*]; done)), H', ⟨by first | omega | exact Nat.le_refl _⟩, by repeat (first | exact Drawn0.refl _ | apply Drawn0.step)⟩
   ·rw [if_neg c6] at H
    have c6b0 : (t215 == (l0.length : Int)) = false := beq_eq_false_iff_ne.mpr c6
    have c6b1 : (t215 != (l0.length : Int)) = true := bne_iff_ne.mpr c6
    (first | rw [c6b0] | (simp only [i64_w, i32_w]; rw [c6b0]) | skip)
    by_cases c7 : (l1.length : Int) = (l0.length : Int)
    ·rw [if_pos c7] at H
     have c7b0 : ((l1.length : Int) == (l0.length : Int)) = true := beq_iff_eq.mpr c7
     have c7b1 : ((l1.length : Int) != (l0.length : Int)) = false := bne_eq_false_iff_eq.mpr c7
     have c7b2 : (l1.length == l0.length) = true := by first | simpa using c7 | (simp at c7 ⊢; omega)
     clear c7
     by_cases c8 : 0 < (l1.length : Int)
     ·rw [if_pos c8] at H
      have c8b0 : decide (0 < (l1.length : Int)) = true := decide_eq_true c8
      have c8b1 : decide (0 < l1.length) = true := decide_eq_true (by omega)
      clear c8
      have H' := am H
      clear H
      have p217 : 0 ≤ (0 : Int) := (by omega)
      have q217 : 0 < (l1.length : Int) := od
      obtain ⟨ad217, e217, hx217_0⟩ := Kd.at_int HR1.out 0 p217 q217
      cases e217
      have qi217 : (0 < l1.length) = True := eq_true (by omega)
      (try rw [show ((0 : Int)).toNat = 0 from rfl] at hx217_0)
      (try rw [Addr.add_zero'] at hx217_0)
      replace p217 := eq_true p217
      replace q217 := eq_true q217
      go_wp2
      go_meet
      case rel => exact ⟨_, (((rd l1 0) != (-1))), (by first | rfl | (simp; done) | (simp [*]; done)), H', ⟨by first | omega | exact Nat.le_refl _⟩, by repeat (first | exact Drawn0.refl _ | apply Drawn0.step)⟩
     ·rw [if_neg c8] at H
      exact absurd H (by simp)
    ·rw [if_neg c7] at H
     have c7b0 : ((l1.length : Int) == (l0.length : Int)) = false := beq_eq_false_iff_ne.mpr c7
     have c7b1 : ((l1.length : Int) != (l0.length : Int)) = true := bne_iff_ne.mpr c7
     have c7b2 : (l1.length == l0.length) = false := by first | simpa using c7 | (simp at c7 ⊢; omega)
     have H' := am H
     clear H
     go_wp2
     go_meet
     case rel => exact ⟨_, (true), (by first | rfl | (simp; done) | (simp [*]; done)), H', ⟨by first | omega | exact Nat.le_refl _⟩, by repeat (first | exact Drawn0.refl _ | apply Drawn0.step)⟩
  ·replace c5 := Bool.eq_false_iff.mpr c5
   subst c5
   have H1 : (spec_StemValid.j0 k l1 true) = some r := by rw [if_neg (show ¬ (false = true) by decide)] at H; exact H
   clear H
   have H := H1
   clear H1
   have H' := am H
   clear H
   go_wp2
   go_meet
   case rel => exact ⟨_, (true), (by first | rfl | (simp; done) | (simp [*]; done)), H', ⟨by first | omega | exact Nat.le_refl _⟩, by repeat (first | exact Drawn0.refl _ | apply Drawn0.step)⟩
 case rest =>
  clear HC4
  try clear c1
  try clear c2
  try clear p2
  try clear q2
  try clear hx2
  try clear qi2
  try clear c5
  try clear c6
  try clear c6b0
  try clear c6b1
  try clear c7
  try clear c7b0
  try clear c7b1
  try clear c7b2
  try clear c8
  try clear c8b0
  try clear c8b1
  try clear hx217_0
  try clear p217
  try clear q217
  obtain ⟨kq, x33_3, rfl, HA, HJ3, ⟨mc3, rfl⟩⟩ := hcut
  cases kq with
  | zero => exact absurd HA.out (by simp [spec_StemValid.j0])
  | succ kj3 =>
   have H := HA.out
   clear HA
   simp only [spec_StemValid.j0] at H
   by_cases c9 : x33_3 = true
   ·subst c9
    have H1 : (some false) = some r := by rw [if_pos rfl] at H; exact H
    clear H
    have H := H1
    clear H1
    obtain rfl := Option.some.inj H
    go_wp2
    go_ret
    exact ⟨by first | rfl | (simp; done) | (simp [*]; done), by repeat (first | exact Drawn0.refl _ | apply Drawn0.step)⟩
   ·replace c9 := Bool.eq_false_iff.mpr c9
    subst c9
    have H1 : (spec_StemValid.l0 kj3 l1 1) = some r := by rw [if_neg (show ¬ (false = true) by decide)] at H; exact H
    clear H
    have H := H1
    clear H1
    have H' := am H
    clear H
    go_wp2
    go_loopg [7] kj3 (fun kq v7 w' => ∃ (x7_2 : Int), v7 = .int .i64 x7_2 ∧ Aside0 (spec_StemValid.l0 kq l1 x7_2 = some r) ∧ Aside0 (kq ≤ kj3) ∧ Drawn0 w w')
    case atStart => exact ⟨(1), (by first | rfl | (simp; done) | (simp [*]; done)), H', ⟨Nat.le_refl _⟩, by repeat (first | exact Drawn0.refl _ | apply Drawn0.step)⟩
    case round =>
     clear H'
     try clear c1
     try clear c2
     try clear p2
     try clear q2
     try clear hx2
     try clear qi2
     try clear c3
     try clear c5
     try clear c6
     try clear c6b0
     try clear c6b1
     try clear c7
     try clear c7b0
     try clear c7b1
     try clear c7b2
     try clear c8
     try clear c8b0
     try clear c8b1
     try clear c9
     try clear hx217_0
     try clear p2
     try clear p217
     try clear q2
     try clear q217
     obtain ⟨x7_2, rfl, HA, HK2, ⟨m2, rfl⟩⟩ := hrel
     cases gk with
     | zero => exact absurd HA.out (by simp [spec_StemValid.l0])
     | succ k2 =>
      have H := HA.out
      clear HA
      simp only [spec_StemValid.l0] at H
      by_cases c10 : x7_2 < (l1.length : Int)
      ·rw [if_pos c10] at H
       have c10b0 : decide (x7_2 < (l1.length : Int)) = true := decide_eq_true c10
       clear c10
       by_cases c11 : 0 ≤ x7_2
       ·rw [if_pos c11] at H
        have c11b0 : decide (0 ≤ x7_2) = true := decide_eq_true c11
        clear c11
        replace H := Option.bind_eq_some_iff.mp H
        obtain ⟨t219, A120, H⟩ := H
        replace H : (if t219 = true then (spec_StemValid.l0 k2 l1 (wrap64 (x7_2 + 1))) else (some false)) = some r := H
        have A12 := am A120
        clear A120
        by_cases c13 : t219 = true
        ·subst c13
         have H1 : (spec_StemValid.l0 k2 l1 (wrap64 (x7_2 + 1))) = some r := by rw [if_pos rfl] at H; exact H
         clear H
         have H := H1
         clear H1
         have H' := am H
         clear H
         have p218 : 0 ≤ (x7_2 : Int) := od
         have q218 : x7_2 < (l1.length : Int) := od
         obtain ⟨ad218, e218, hx218_0⟩ := Kd.at_int HR1.out x7_2 p218 q218
         cases e218
         replace p218 := eq_true p218
         replace q218 := eq_true q218
         go_wp2_with (first | ((with_reducible refine gate_callee (f := 28) rfl ?_); refine goesL_ (some 46) rfl rfl Tryd.func28 (by kernel_rfl) rfl #[.int .i64 (rd l1 x7_2), .int .i64 0, .int .i64 (wrap64 (x7_2 - 1))] rfl (by (try simp only [List.map_toArray, List.map_cons, List.map_nil]); first | done | rfl | (simp only [List.length_drop, List.length_take]; rfl)) ?_; (with_reducible refine (spec_l6In.calls (rd l1 x7_2) 0 (wrap64 (x7_2 - 1)) true _ A12.out).mono ?_); rintro e w' ⟨rfl, ⟨nd, rfl⟩⟩; refine ⟨_, rfl, ?_⟩))
         go_roundg k2
         case measure => have := HJ3.out; have := HK2.out; omega
         case rel => exact ⟨(wrap64 (x7_2 + 1)), (by first | rfl | (simp; done) | (simp [*]; done)), H', ⟨by have := HJ3.out; have := HK2.out; omega⟩, by repeat (first | exact Drawn0.refl _ | apply Drawn0.step)⟩
        ·replace c13 := Bool.eq_false_iff.mpr c13
         subst c13
         have H1 : (some false) = some r := by rw [if_neg (show ¬ (false = true) by decide)] at H; exact H
         clear H
         have H := H1
         clear H1
         obtain rfl := Option.some.inj H
         have p218 : 0 ≤ (x7_2 : Int) := od
         have q218 : x7_2 < (l1.length : Int) := od
         obtain ⟨ad218, e218, hx218_0⟩ := Kd.at_int HR1.out x7_2 p218 q218
         cases e218
         replace p218 := eq_true p218
         replace q218 := eq_true q218
         go_wp2_with (first | ((with_reducible refine gate_callee (f := 28) rfl ?_); refine goesL_ (some 46) rfl rfl Tryd.func28 (by kernel_rfl) rfl #[.int .i64 (rd l1 x7_2), .int .i64 0, .int .i64 (wrap64 (x7_2 - 1))] rfl (by (try simp only [List.map_toArray, List.map_cons, List.map_nil]); first | done | rfl | (simp only [List.length_drop, List.length_take]; rfl)) ?_; (with_reducible refine (spec_l6In.calls (rd l1 x7_2) 0 (wrap64 (x7_2 - 1)) false _ A12.out).mono ?_); rintro e w' ⟨rfl, ⟨nd, rfl⟩⟩; refine ⟨_, rfl, ?_⟩))
         go_ret
         exact ⟨by first | rfl | (simp; done) | (simp [*]; done), by repeat (first | exact Drawn0.refl _ | apply Drawn0.step)⟩
       ·rw [if_neg c11] at H
        exact absurd H (by simp)
      ·rw [if_neg c10] at H
       have c10b0 : decide (x7_2 < (l1.length : Int)) = false := decide_eq_false c10
       clear c10
       obtain rfl := Option.some.inj H
       go_wp2
       go_ret
       exact ⟨by first | rfl | (simp; done) | (simp [*]; done), by repeat (first | exact Drawn0.refl _ | apply Drawn0.step)⟩

/-! ### spec_l7Best: function 29 -/
def spec_l7Best.l0 : Nat → List Int → Int → Int → Option (Int)
 | 0, _, _, _ => none
 | k + 1, x0, x5, x6 => if x6 < 4 then (if 0 ≤ x6 then (if x6 < (x0.length : Int) then (spec_l7Best.l0 k x0 (mn x5 (wrap64 ((rd x0 x6) + 1))) (wrap64 (x6 + 1))) else (none)) else (none)) else (some x5)
def spec_l7Best.f (k : Nat) (l0 : List Int) (a1 : Int) : Option (Int) := if 0 ≤ a1 then (if a1 < (l0.length : Int) then (spec_l7Best.l0 k l0 (rd l0 a1) 0) else (none)) else (none)
set_option maxHeartbeats 8000000 in
set_option maxRecDepth 100000 in
theorem spec_l7Best.calls (k : Nat) (A0 : Option Addr) (c0 : Nat) (l0 : List Int) (a1 : Int) (r : Int) (w : World) (hr0 : Kd.C (Kd.int .i64) w A0 l0.length l0) (hc0 : l0.length ≤ c0) (h : spec_l7Best.f k l0 a1 = some r) :
  Calls Tryd.prog 29 #[.slice A0 l0.length c0, .int .i64 a1] w fun e w' => e = .returned (.int .i64 r) ∧ Below w.heap.size w w' := by
 have HR0 := am hr0
 have HC0 := am hc0
 clear hr0 hc0
 have HB := am (Below.refl w.heap.size w)
 have H : (if 0 ≤ a1 then (if a1 < (l0.length : Int) then (spec_l7Best.l0 k l0 (rd l0 a1) 0) else (none)) else (none)) = some r := h
 clear h
 by_cases c3 : 0 ≤ a1
 ·rw [if_pos c3] at H
  have c3b0 : decide (0 ≤ a1) = true := decide_eq_true c3
  clear c3
  by_cases c4 : a1 < (l0.length : Int)
  ·rw [if_pos c4] at H
   have c4b0 : decide (a1 < (l0.length : Int)) = true := decide_eq_true c4
   clear c4
   have H' := am H
   clear H
   have p220 : 0 ≤ (a1 : Int) := od
   have q220 : a1 < (l0.length : Int) := od
   obtain ⟨ad220, e220, hx220_0⟩ := Kd.at_int HR0.out a1 p220 q220
   cases e220
   replace p220 := eq_true p220
   replace q220 := eq_true q220
   go_enter Tryd.func29, Tryd.ntmps29
   go_wp2
   go_loopg [5, 6] k (fun kq v5 v6 w' => ∃ (x5_1 : Int) (x6_1 : Int), v5 = .int .i64 x5_1 ∧ v6 = .int .i64 x6_1 ∧ Aside0 (spec_l7Best.l0 kq l0 x5_1 x6_1 = some r) ∧ Aside0 (kq ≤ k) ∧ Aside0 (Below w.heap.size w w'))
   case atStart => exact ⟨(rd l0 a1), (0), (by first | rfl | (simp; done) | (simp [*]; done)), (by first | rfl | (simp; done) | (simp [*]; done)), H', ⟨Nat.le_refl _⟩, ⟨bu HB.out⟩⟩
   case round =>
    clear H'
    try clear c2
    try clear p2
    try clear q2
    try clear hx2
    try clear c3
    try clear c3b0
    try clear c4
    try clear c4b0
    try clear hx220_0
    try clear p220
    try clear q220
    obtain ⟨x5_1, x6_1, rfl, rfl, HA, HK1, HB⟩ := hrel
    cases gk with
    | zero => exact absurd HA.out (by simp [spec_l7Best.l0])
    | succ k1 =>
     have H := HA.out
     clear HA
     simp only [spec_l7Best.l0] at H
     by_cases c5 : x6_1 < 4
     ·rw [if_pos c5] at H
      have c5b0 : decide (x6_1 < 4) = true := decide_eq_true c5
      clear c5
      by_cases c6 : 0 ≤ x6_1
      ·rw [if_pos c6] at H
       have c6b0 : decide (0 ≤ x6_1) = true := decide_eq_true c6
       clear c6
       by_cases c7 : x6_1 < (l0.length : Int)
       ·rw [if_pos c7] at H
        have c7b0 : decide (x6_1 < (l0.length : Int)) = true := decide_eq_true c7
        clear c7
        obtain ⟨ji8, hji8⟩ : ∃ j_ : Int, (mn x5_1 (wrap64 ((rd l0 x6_1) + 1))) = j_ := ⟨_, rfl⟩
        replace H : (spec_l7Best.l0 k1 l0 ji8 (wrap64 (x6_1 + 1))) = some r := by first | (rw [hji8] at H; exact H) | (simp only [hji8] at H ⊢; exact H)
        have hji8_ : (if (wrap64 ((rd l0 x6_1) + 1)) < x5_1 then (wrap64 ((rd l0 x6_1) + 1)) else x5_1) = ji8 := hji8
        have H' := am H
        clear H
        have p221 : 0 ≤ (x6_1 : Int) := od
        have q221 : x6_1 < (l0.length : Int) := od
        obtain ⟨ad221, e221, hx221_0⟩ := Kd.at_int HR0.out x6_1 p221 q221
        obtain rfl : ad220 = ad221 := (by injection e221)
        replace hx221_0 := (HB.out.cell (World.block_lt_of_cell? w _ hx221_0)).trans hx221_0
        replace p221 := eq_true p221
        replace q221 := eq_true q221
        go_wp2
        (first | go_roundg k1 | (subst hji8; go_roundg k1))
        case measure => have := HK1.out; omega
        case rel => exact ⟨(ji8), (wrap64 (x6_1 + 1)), (by first | rfl | (simp; done) | (simp only [← hji8] <;> (first | rfl | simp)) | (simp [*]; done)), (by first | rfl | (simp; done) | (simp [*]; done)), H', ⟨by have := HK1.out; omega⟩, ⟨bu HB.out⟩⟩
       ·rw [if_neg c7] at H
        exact absurd H (by simp)
      ·rw [if_neg c6] at H
       exact absurd H (by simp)
     ·rw [if_neg c5] at H
      have c5b0 : decide (x6_1 < 4) = false := decide_eq_false c5
      clear c5
      obtain rfl := Option.some.inj H
      go_wp2
      go_ret
      exact ⟨by first | rfl | (simp [errW_none, errW_some] <;> rfl) | (simp [*, errW_none, errW_some] <;> rfl), bu HB.out⟩
  ·rw [if_neg c4] at H
   exact absurd H (by simp)
 ·rw [if_neg c3] at H
  exact absurd H (by simp)

/-! ### spec_l7Below: function 18 -/
mutual
def spec_l7Below.l0 : Nat → List ByteArray → List Int → Int → List (List Int) → Int → Option ((List (List Int)))
 | 0, _, _, _, _, _ => none
 | k + 1, x0, x1, x2, x7, x8 => if x8 ≥ 0 then (if 4 ≤ 35184372088832 then (if 0 ≤ x8 then (if x8 < (x7.length : Int) then (spec_l7Below.l1 k x0 x1 x2 (x7.set (x8 : Int).toNat (List.replicate 4 0)) x8 0) else (none)) else (none)) else (none)) else (some x7)
def spec_l7Below.l1 : Nat → List ByteArray → List Int → Int → List (List Int) → Int → Int → Option ((List (List Int)))
 | 0, _, _, _, _, _, _ => none
 | k + 1, x0, x1, x2, x7, x8, x9 => if x9 < 4 then (if 0 ≤ x8 then (if x8 < (x0.length : Int) then (if 0 ≤ x2 then (if x2 < ((rdOf ByteArray.empty x0 x8).size : Int) then (if (bt (rdOf ByteArray.empty x0 x8) x2) = 63 then (spec_l7Below.j2 k x0 x1 x2 x7 x8 x9 false) else (spec_l7Below.j2 k x0 x1 x2 x7 x8 x9 ((wrap64 (bt (rdOf ByteArray.empty x0 x8) x2)) != (wrap64 (97 + x9))))) else (none)) else (none)) else (none)) else (none)) else (spec_l7Below.l0 k x0 x1 x2 x7 (wrap64 (x8 - 1)))
def spec_l7Below.j2 : Nat → List ByteArray → List Int → Int → List (List Int) → Int → Int → Bool → Option ((List (List Int)))
 | 0, _, _, _, _, _, _, _ => none
 | k + 1, x0, x1, x2, x7, x8, x9, x47 => if x47 = true then (if 0 ≤ x8 then (if x8 < (x7.length : Int) then (if 0 ≤ x9 then (if x9 < ((rd_L3 x7 x8).length : Int) then (spec_l7Below.j3 k x0 x1 x2 (x7.set (x8 : Int).toNat ((rd_L3 x7 x8).set (x9 : Int).toNat 1000)) x8 x9) else (none)) else (none)) else (none)) else (none)) else (spec_l7Below.j3 k x0 x1 x2 x7 x8 x9)
def spec_l7Below.j3 : Nat → List ByteArray → List Int → Int → List (List Int) → Int → Int → Option ((List (List Int)))
 | 0, _, _, _, _, _, _ => none
 | k + 1, x0, x1, x2, x7, x8, x9 => spec_l7Below.l2 k x0 x1 x2 x7 x8 x9 (wrap64 (x8 + 1))
def spec_l7Below.l2 : Nat → List ByteArray → List Int → Int → List (List Int) → Int → Int → Int → Option ((List (List Int)))
 | 0, _, _, _, _, _, _, _ => none
 | k + 1, x0, x1, x2, x7, x8, x9, x10 => if x10 < (x0.length : Int) then (if 0 ≤ x10 then (if x10 < (x1.length : Int) then (if (rd x1 x10) = x8 then (if 0 ≤ x8 then (if x8 < (x7.length : Int) then (if 0 ≤ x9 then (if x9 < ((rd_L3 x7 x8).length : Int) then (if x10 < (x7.length : Int) then ((spec_l7Best.f k (rd_L3 x7 x10) x9).bind fun t240 => (spec_l7Below.l2 k x0 x1 x2 (x7.set (x8 : Int).toNat ((rd_L3 x7 x8).set (x9 : Int).toNat (wrap64 ((rd (rd_L3 x7 x8) x9) + t240)))) x8 x9 (wrap64 (x10 + 1)))) else (none)) else (none)) else (none)) else (none)) else (none)) else (spec_l7Below.l2 k x0 x1 x2 x7 x8 x9 (wrap64 (x10 + 1)))) else (none)) else (none)) else (spec_l7Below.l1 k x0 x1 x2 x7 x8 (wrap64 (x9 + 1)))
end
def spec_l7Below.f (k : Nat) (l0 : List ByteArray) (l1 : List Int) (a2 : Int) : Option ((List (List Int))) := if 0 ≤ (l0.length : Int) then (if ((l0.length : Int) : Int).toNat ≤ 11728124029610 then (spec_l7Below.l0 k l0 l1 a2 (List.replicate ((l0.length : Int) : Int).toNat []) (wrap64 ((l0.length : Int) - 1))) else (none)) else (none)
def spec_l7Below.T15 : Bool × List (List Nat × List Nat) := (true, [([], []), ([], []), ([0, 1], [0, 1]), ([2], [2]), ([], []), ([], []), ([], []), ([5, 6], [5, 6]), ([7], [7]), ([], []), ([8, 9], [8, 9]), ([10], [10]), ([], []), ([], []), ([12, 13], [12, 13]), ([14], [14]), ([], []), ([15, 16], [15, 16]), ([11, 17], [11, 17]), ([3, 4, 0, 1, 2, 3, 4, 5, 6, 7, 8, 9, 10, 11, 12, 13, 14, 15, 16, 17, 18], [3, 4]), ([19, 18, 17, 0, 1, 2, 3, 4, 5, 6, 7, 8, 9, 10, 11, 12, 13, 14, 15, 16, 17, 18], [18, 19])])
def spec_l7Below.B15 : List Nat := [0, 0, 3, 7, 0, 0, 0, 96, 224, 0, 992, 2016, 0, 0, 12288, 28672, 0, 126976, 262112, 524287, 1048575]
theorem spec_l7Below.tab15 : rtab .any (opsOf Tryd.f18 15) = spec_l7Below.T15 := by kernel_rfl
theorem spec_l7Below.bits15 : waitsOk spec_l7Below.T15.2 spec_l7Below.B15 = true := by kernel_rfl
set_option maxHeartbeats 8000000 in
set_option maxRecDepth 100000 in
theorem spec_l7Below.calls (k : Nat) (A0 : Option Addr) (c0 : Nat) (l0 : List ByteArray) (A1 : Option Addr) (c1 : Nat) (l1 : List Int) (a2 : Int) (r : List (List Int)) (w : World) (hr0 : Kd.C Kd.string w A0 l0.length l0) (hc0 : l0.length ≤ c0) (hr1 : Kd.C (Kd.int .i64) w A1 l1.length l1) (hc1 : l1.length ≤ c1) (h : spec_l7Below.f k l0 l1 a2 = some r) :
  Calls Tryd.prog 18 #[.slice A0 l0.length c0, .slice A1 l1.length c1, .int .i64 a2] w fun e w' => ∃ v0_ : Value, e = .returned (v0_) ∧ Kd.S (Kd.slice 3 (Kd.int .i64)) 24 w' w.heap.size (fun _ => True) v0_ r ∧ Below w.heap.size w w' := by
 have HR0 := am hr0
 have HC0 := am hc0
 clear hr0 hc0
 have HR1 := am hr1
 have HC1 := am hc1
 clear hr1 hc1
 have HB := am (Below.refl w.heap.size w)
 have H : (if 0 ≤ (l0.length : Int) then (if ((l0.length : Int) : Int).toNat ≤ 11728124029610 then (spec_l7Below.l0 k l0 l1 a2 (List.replicate ((l0.length : Int) : Int).toNat []) (wrap64 ((l0.length : Int) - 1))) else (none)) else (none)) = some r := h
 clear h
 by_cases c4 : 0 ≤ (l0.length : Int)
 ·rw [if_pos c4] at H
  have c4b0 := eq_true c4
  have c4b1 : decide (0 ≤ (l0.length : Int)) = true := decide_eq_true c4
  clear c4
  by_cases c5 : ((l0.length : Int) : Int).toNat ≤ 11728124029610
  ·rw [if_pos c5] at H
   have c5b0 := eq_true c5
   have c5b1 : decide (((l0.length : Int) : Int).toNat ≤ 11728124029610) = true := decide_eq_true c5
   clear c5
   obtain ⟨y222, hy222⟩ : ∃ y_ : List (List Int), y_ = (List.replicate ((l0.length : Int) : Int).toNat []) := ⟨_, rfl⟩
   replace H : (spec_l7Below.l0 k l0 l1 a2 y222 (wrap64 ((l0.length : Int) - 1))) = some r := by first | (rw [hy222]; with_reducible exact H) | (have H2_ := (Option.bind_some _ _).symm.trans H; rw [hy222]; with_reducible exact H2_) | (have H2_ := (Option.bind_some _ _).symm.trans H; with_reducible exact H2_) | with_reducible exact H | (rw [hy222]; exact H) | exact H
   have Ny222 := am hy222
   clear hy222
   have H' := am H
   clear H
   go_enter Tryd.func18, Tryd.ntmps18
   go_wp2_with (first | ((with_reducible refine gate_dst (N := 13) rfl ?_); refine Kd.S_make (Kd.slice 3 (Kd.int .i64)) _ 24 rfl (N := 13) rfl 44 _ _ rfl (l0.length : Int) rfl rfl Tryd.underlying44 (.slice none 0 0) 24 info24 rfl (by decide) (by omega) [] (ok := fun _ => True) (okp := fun _ => True) ⟨_, rfl, Kd.R_nil _ _ _ _ _⟩ (fun _ hk => hk) trivial (od) (Nat.le_trans (Nat.mul_le_mul_right _ (od : (l0.length : Int).toNat ≤ 11728124029610)) (by omega)) (Below.refl _ _) (Nat.le_refl _) ?_; intro v223 w6 ho7 hb hg_ hnew_; clear hg_ hnew_; (first | rw [← Ny222.out] at ho7 | (simp only [Int.reduceToNat] at ho7; rw [← Ny222.out] at ho7)); have n0_ := am (Kd.S_lower ho7 (below_size (bu HB.out))); have n1_ := am (below_step (bu HB.out) hb); clear HB; have HO224 := n0_; have HB := n1_; clear n0_ n1_; clear hb ho7))
   go_loopg [8] k (fun kq v8 w' => ∃ (x7_1 : List (List Int)) (x8_1 : Int), v8 = .int .i64 x8_1 ∧ Aside0 (spec_l7Below.l0 kq l0 l1 a2 x7_1 x8_1 = some r) ∧ Aside0 (kq ≤ k) ∧ Aside0 (Kd.S (Kd.slice 3 (Kd.int .i64)) 24 w' w.heap.size (fun _ => True) v223 x7_1) ∧ Aside0 (Below w.heap.size w w'))
   case atStart => exact ⟨(y222), (wrap64 ((l0.length : Int) - 1)), (by first | rfl | (simp; done) | (simp [*]; done)), H', ⟨Nat.le_refl _⟩, ⟨by (with_reducible repeat (first | apply Kd.S_alloc | apply Kd.S_drewN | apply Kd.S_drew)); exact HO224.out⟩, ⟨bu HB.out⟩⟩
   case round =>
    clear H'
    try clear c1
    try clear p2
    try clear c4
    try clear c4b0
    try clear c4b1
    try clear c5
    try clear c5b0
    try clear c5b1
    try clear p6
    obtain ⟨x7_1, x8_1, rfl, HA, HK1, HO_7, HB⟩ := hrel
    cases gk with
    | zero => exact absurd HA.out (by simp [spec_l7Below.l0])
    | succ k1 =>
     have H := HA.out
     clear HA
     simp only [spec_l7Below.l0] at H
     by_cases c8 : x8_1 ≥ 0
     ·rw [if_pos c8] at H
      have c8b0 : decide (0 ≤ x8_1) = true := decide_eq_true c8
      clear c8
      by_cases c9 : 4 ≤ 35184372088832
      ·rw [if_pos c9] at H
       have c9b0 := eq_true c9
       have c9b1 : decide (4 ≤ 35184372088832) = true := decide_eq_true c9
       clear c9
       obtain ⟨y225, hy225⟩ : ∃ y_ : List Int, y_ = (List.replicate 4 0) := ⟨_, rfl⟩
       replace H : (if 0 ≤ x8_1 then (if x8_1 < (x7_1.length : Int) then (spec_l7Below.l1 k1 l0 l1 a2 (x7_1.set (x8_1 : Int).toNat y225) x8_1 0) else (none)) else (none)) = some r := by first | (rw [hy225]; with_reducible exact H) | (have H2_ := (Option.bind_some _ _).symm.trans H; rw [hy225]; with_reducible exact H2_) | (have H2_ := (Option.bind_some _ _).symm.trans H; with_reducible exact H2_) | with_reducible exact H | (rw [hy225]; exact H) | exact H
       have Ny225 := am hy225
       clear hy225
       by_cases c10 : 0 ≤ x8_1
       ·rw [if_pos c10] at H
        have c10b0 : decide (0 ≤ x8_1) = true := decide_eq_true c10
        clear c10
        by_cases c11 : x8_1 < (x7_1.length : Int)
        ·rw [if_pos c11] at H
         have c11b0 : decide (x8_1 < (x7_1.length : Int)) = true := decide_eq_true c11
         clear c11
         obtain ⟨y228, hy228⟩ : ∃ y_ : List (List Int), y_ = (x7_1.set (x8_1 : Int).toNat y225) := ⟨_, rfl⟩
         replace H : (spec_l7Below.l1 k1 l0 l1 a2 y228 x8_1 0) = some r := by first | (rw [hy228]; with_reducible exact H) | (have H2_ := (Option.bind_some _ _).symm.trans H; rw [hy228]; with_reducible exact H2_) | (have H2_ := (Option.bind_some _ _).symm.trans H; with_reducible exact H2_) | with_reducible exact H | (rw [hy228]; exact H) | exact H
         have Ny228 := am hy228
         clear hy228
         have H' := am H
         clear H
         go_wp2_with (first | ((with_reducible refine gate_dst (N := 23) rfl ?_); refine Kd.R_make (Kd.int .i64) _ 3 rfl (N := 23) rfl 24 _ _ rfl 4 rfl rfl Tryd.underlying24 (.int .i64 0) 8 info3 rfl (by decide) (by omega) 0 (ok := fun _ => True) (okp := fun _ => True) rfl (fun _ hk => hk) trivial (by omega) (by omega) (Below.refl _ _) (Nat.le_refl _) ?_; intro v226 w13 ho14 hb hg_ hnew_; clear hg_ hnew_; (first | rw [← Ny225.out] at ho14 | (simp only [Int.reduceToNat] at ho14; rw [← Ny225.out] at ho14)); have n0_ := am (Kd.S_elder' (by (with_reducible repeat (first | apply Kd.S_alloc | apply Kd.S_drewN | apply Kd.S_drew)); exact HO_7.out) (Kd.R_base ho14) hb); have n1_ := am (Kd.R_lower ho14 (below_size (bu HB.out))); have n2_ := am (below_step (bu HB.out) hb); clear HO_7; clear HB; have HO_7 := n0_; have HO227 := n1_; have HB := n2_; clear n0_ n1_ n2_; clear hb ho14; have p12 : 0 ≤ (x8_1 : Int) := od; have q12 : (x8_1 : Int) < ((x7_1.length : Int) : Int) := od; obtain ⟨go12, co12, eo12, gb12, gl12, cl12, HG12⟩ := Kd.S_form HO_7.out (by omega); (first | cases eo12 | (injection eo12 with ea_ en_ ec_; (first | subst ea_ | (injection ea_ with ea_; subst ea_)); subst ec_; clear en_)); have GB12 := am gb12; have GG12 := am HG12; clear gb12 gl12 HG12; obtain ⟨_, ce12, hcl12, hM12, hcc12, hfr12, _, _⟩ := Kd.S_elem HO_7.out [] (x8_1 : Int) p12 q12; obtain ⟨ve12_0, rfl, ge12_0⟩ := hM12; have hx12_0 := hcc12 0 _ rfl; have hf12_0 := hfr12 0; (try simp only [show ((Kd.slice 3 (Kd.int .i64))).sz = 1 from rfl, Nat.mul_one, Nat.add_zero] at hx12_0); (try simp only [show ((Kd.slice 3 (Kd.int .i64))).sz = 1 from rfl, Nat.mul_one, Nat.add_zero] at hf12_0); (try clear hM12); clear hcl12 hcc12 hfr12; replace p12 := eq_true p12; replace q12 := eq_true q12; have n_ := am (Kd.S_mono (ok' := (fun k_ => some k_ ≠ (v226 : Value).ownBlock)) HO_7.out (fun k_ hk => hk.2)); clear HO_7; have HO_7 := n_; clear n_; have HX15 := am (show Kd.S (Kd.slice 3 (Kd.int .i64)) 24 w13 w.heap.size (fun k_ => ((fun _ => True)) k_ ∧ ¬ ((fun k_ => some k_ = (v226 : Value).ownBlock)) k_) (.slice (some ⟨go12, 0, none⟩) x7_1.length co12) x7_1 from (by (with_reducible repeat (first | apply Kd.S_alloc | apply Kd.S_drewN | apply Kd.S_drew)); exact Kd.S_mono HO_7.out (fun k_ hk => ⟨trivial, fun e_ => hk e_⟩))); obtain ⟨oki15, ce15, hcl15, hM15, hcc15, hfr15, hoki15, hH15⟩ := Kd.S_elem HX15.out [] (x8_1 : Int) (od) (by have h_ : (x8_1 : Int) < ((x7_1.length : Int) : Int) := od; first | exact h_ | (have e_ := (Kd.S_reads' HO_7.out).1; omega) | simpa using h_); obtain ⟨ve15_0, rfl, ge15_0⟩ := hM15; have HP15 := Kd.S_seg hH15 (od) (by have h_ : (x8_1 : Int) < ((x7_1.length : Int) : Int) := od; first | exact h_ | (have e_ := (Kd.S_reads' HO_7.out).1; omega) | simpa using h_) (seg := [v226]) (j := 0) (show 1 ≤ 1 from by decide) (x' := y225) (Kd.M_row (Kd.R_mono (Kd.R_tight rfl (Kd.R_mono (ok' := fun k_ => ((fun _ => True)) k_ ∧ k_ ≠ go12) (Kd.R_apart' (HO227.out) (Kd.S_typed HO_7.out) (by decide)) (fun k_ hk => ⟨trivial, fun e_ => (hk.2) (by rw [e_]; rfl)⟩))) (fun _ h_ => Or.inr (h_)))) (fun _ hk => hk) (fun k_ hk_ => ((Kd.R_mono (ok' := fun k_ => ((fun _ => True)) k_ ∧ k_ ≠ go12) (Kd.R_apart' (HO227.out) (Kd.S_typed HO_7.out) (by decide)) (fun k_ hk => ⟨trivial, fun e_ => (hk.2) (by rw [e_]; rfl)⟩))).1 k_ hk_.symm); have hx15_0 := hcc15 0 _ rfl; (try simp only [show ((Kd.slice 3 (Kd.int .i64))).sz = 1 from rfl, Nat.mul_one, Nat.add_zero] at hx15_0); have hf15_0 := hfr15 0; (try simp only [show ((Kd.slice 3 (Kd.int .i64))).sz = 1 from rfl, Nat.mul_one, Nat.add_zero] at hf15_0); (try clear hM15); clear hcl15 hcc15 hfr15 hoki15 hH15; (try simp only [show ((Kd.slice 3 (Kd.int .i64))).sz = 1 from rfl, Nat.mul_one, Nat.add_zero] at HP15); obtain ⟨Ae_, ce_, ev_⟩ := Kd.R_slice HO227.out) | ((with_reducible refine gate_store (t := 24) (p := 24) rfl ?_); refine store_event (t := 24) (p := 24) (v := ?vo_w16) (w1 := (w13.setCell ⟨go12, (x8_1 : Int).toNat, none⟩ (v226))) ?hg ?ho ?hn ?hr ?_; (case ho => rfl); (case hg => rfl); (case hn => rfl); (case hr => first | (go_simp; done) | (go_simp; rfl)); intro w16 hw; have hg : w13.grownBy w16 (some go12) := (by rw [hw]; exact HP15.2); have hp_ : Kd.S (Kd.slice 3 (Kd.int .i64)) 24 w16 w.heap.size (fun _ => True) (.slice (some ⟨go12, 0, none⟩) x7_1.length co12) y228 := (by rw [hw, Ny228.out]; exact HP15.1); clear HP15; have n0_ := am (hp_); have n1_ := am ((by rw [hw]; exact below_set (HB.out) GB12.out : Below w.heap.size w w16)); clear HO_7; clear HB; clear HO227; have HO_7 := n0_; have HB := n1_; clear n0_ n1_; clear hg hw hp_; (try clear ev_)))
         go_loopg [9] k1 (fun kq v9 w' => ∃ (x7_2 : List (List Int)) (x9_2 : Int), v9 = .int .i64 x9_2 ∧ Aside0 (spec_l7Below.l1 kq l0 l1 a2 x7_2 x8_1 x9_2 = some r) ∧ Aside0 (kq ≤ k1) ∧ Aside0 (Kd.S (Kd.slice 3 (Kd.int .i64)) 24 w' w.heap.size (fun _ => True) (.slice (some ⟨go12, 0, none⟩) x7_1.length co12) x7_2) ∧ Aside0 (Below w.heap.size w w'))
         case atStart => exact ⟨(y228), (0), (by first | rfl | (simp; done) | (simp [*]; done)), H', ⟨Nat.le_refl _⟩, ⟨by (with_reducible repeat (first | apply Kd.S_alloc | apply Kd.S_drewN | apply Kd.S_drew)); exact HO_7.out⟩, ⟨bu HB.out⟩⟩
         case round =>
          clear H'
          try clear c1
          try clear p1
          try clear q1
          try clear hx1
          try clear p2
          try clear c4
          try clear c4b0
          try clear c4b1
          try clear c5
          try clear c5b0
          try clear c5b1
          try clear p6
          try clear c8
          try clear c8b0
          try clear c9
          try clear c9b0
          try clear c9b1
          try clear c10
          try clear c10b0
          try clear c11
          try clear c11b0
          try clear c12
          try clear p12
          try clear q12
          try clear hx12
          try clear hf12
          try clear c15
          try clear hx15
          try clear hf15
          try clear hx12_0
          try clear hx15_0
          try clear p12
          try clear p2
          try clear p6
          try clear q12
          obtain ⟨x7_2, x9_2, rfl, HA, HK2, HO_7, HB⟩ := hrel
          have hl7_2 := (Kd.S_reads' HO_7.out).1
          rw [hl7_2] at HO_7
          (try simp only [hl7_2])
          cases gk with
          | zero => exact absurd HA.out (by simp [spec_l7Below.l1])
          | succ k2 =>
           have H := HA.out
           clear HA
           simp only [spec_l7Below.l1] at H
           by_cases c17 : x9_2 < 4
           ·rw [if_pos c17] at H
            have c17b0 : decide (x9_2 < 4) = true := decide_eq_true c17
            clear c17
            have HC18 := am H
            clear H
            go_upto_region 9 with (fail)
            go_cut [47] (fun v47 wc => ∃ (kq : Nat) (x47_17 : Bool), v47 = .bool x47_17 ∧ Aside0 (spec_l7Below.j2 kq l0 l1 a2 x7_2 x8_1 x9_2 x47_17 = some r) ∧ Aside0 (kq ≤ k2) ∧ Aside0 (Kd.S (Kd.slice 3 (Kd.int .i64)) 24 wc w.heap.size (fun _ => True) (.slice (some ⟨go12, 0, none⟩) x7_2.length co12) x7_2) ∧ Aside0 (Below w.heap.size w wc))
            case first =>
             have H := HC18.out
             clear HC18
             by_cases c19 : 0 ≤ x8_1
             ·rw [if_pos c19] at H
              have c19b0 : decide (0 ≤ x8_1) = true := decide_eq_true c19
              clear c19
              (first | rw [c19b0] | (simp only [i64_w, i32_w]; rw [c19b0]) | skip)
              by_cases c20 : x8_1 < (l0.length : Int)
              ·rw [if_pos c20] at H
               have c20b0 : decide (x8_1 < (l0.length : Int)) = true := decide_eq_true c20
               clear c20
               by_cases c21 : 0 ≤ a2
               ·rw [if_pos c21] at H
                have c21b0 : decide (0 ≤ a2) = true := decide_eq_true c21
                clear c21
                by_cases c22 : a2 < ((rdOf ByteArray.empty l0 x8_1).size : Int)
                ·rw [if_pos c22] at H
                 have c22b0 : decide (a2 < ((rdOf ByteArray.empty l0 x8_1).size : Int)) = true := decide_eq_true c22
                 clear c22
                 by_cases c24 : (bt (rdOf ByteArray.empty l0 x8_1) a2) = 63
                 ·rw [if_pos c24] at H
                  have c24b0 : ((bt (rdOf ByteArray.empty l0 x8_1) a2) == 63) = true := beq_iff_eq.mpr c24
                  have c24b1 : ((bt (rdOf ByteArray.empty l0 x8_1) a2) != 63) = false := bne_eq_false_iff_eq.mpr c24
                  clear c24
                  have H' := am H
                  clear H
                  have p229 : 0 ≤ (x8_1 : Int) := od
                  have q229 : x8_1 < (l0.length : Int) := od
                  obtain ⟨ad229, e229, hx229_0⟩ := Kd.at_string HR0.out x8_1 p229 q229
                  cases e229
                  replace hx229_0 := (HB.out.cell (World.block_lt_of_cell? w _ hx229_0)).trans hx229_0
                  replace p229 := eq_true p229
                  replace q229 := eq_true q229
                  have p23 : 0 ≤ (a2 : Int) := od
                  have q23 : a2 < ((rdOf ByteArray.empty l0 x8_1).size : Int) := od
                  have hx23 := bt_at (rdOf ByteArray.empty l0 x8_1) a2
                  replace p23 := eq_true p23
                  replace q23 := eq_true q23
                  go_wp2
                  go_meet
                  case rel => exact ⟨_, (false), (by first | rfl | (simp; done) | (simp [*]; done)), H', ⟨by have := HK1.out; have := HK2.out; first | omega | exact Nat.le_refl _⟩, ⟨by (try simp only [hl7_2]); (with_reducible repeat (first | apply Kd.S_alloc | apply Kd.S_drewN | apply Kd.S_drew)); exact HO_7.out⟩, ⟨bu HB.out⟩⟩
                 ·rw [if_neg c24] at H
                  have c24b0 : ((bt (rdOf ByteArray.empty l0 x8_1) a2) == 63) = false := beq_eq_false_iff_ne.mpr c24
                  have c24b1 : ((bt (rdOf ByteArray.empty l0 x8_1) a2) != 63) = true := bne_iff_ne.mpr c24
                  have H' := am H
                  clear H
                  have p229 : 0 ≤ (x8_1 : Int) := od
                  have q229 : x8_1 < (l0.length : Int) := od
                  obtain ⟨ad229, e229, hx229_0⟩ := Kd.at_string HR0.out x8_1 p229 q229
                  cases e229
                  replace hx229_0 := (HB.out.cell (World.block_lt_of_cell? w _ hx229_0)).trans hx229_0
                  replace p229 := eq_true p229
                  replace q229 := eq_true q229
                  have p23 : 0 ≤ (a2 : Int) := od
                  have q23 : a2 < ((rdOf ByteArray.empty l0 x8_1).size : Int) := od
                  have hx23 := bt_at (rdOf ByteArray.empty l0 x8_1) a2
                  replace p23 := eq_true p23
                  replace q23 := eq_true q23
                  have p230 : 0 ≤ (x8_1 : Int) := od
                  have q230 : x8_1 < (l0.length : Int) := od
                  obtain ⟨ad230, e230, hx230_0⟩ := Kd.at_string HR0.out x8_1 p230 q230
                  obtain rfl : ad229 = ad230 := (by injection e230)
                  replace hx230_0 := (HB.out.cell (World.block_lt_of_cell? w _ hx230_0)).trans hx230_0
                  replace p230 := eq_true p230
                  replace q230 := eq_true q230
                  have p25 : 0 ≤ (a2 : Int) := od
                  have q25 : a2 < ((rdOf ByteArray.empty l0 x8_1).size : Int) := od
                  have hx25 := bt_at (rdOf ByteArray.empty l0 x8_1) a2
                  replace p25 := eq_true p25
                  replace q25 := eq_true q25
                  go_wp2
                  go_meet
                  case rel => exact ⟨_, (((wrap64 (bt (rdOf ByteArray.empty l0 x8_1) a2)) != (wrap64 (97 + x9_2)))), (by first | rfl | (simp; done) | (simp [*]; done)), H', ⟨by have := HK1.out; have := HK2.out; first | omega | exact Nat.le_refl _⟩, ⟨by (try simp only [hl7_2]); (with_reducible repeat (first | apply Kd.S_alloc | apply Kd.S_drewN | apply Kd.S_drew)); exact HO_7.out⟩, ⟨bu HB.out⟩⟩
                ·rw [if_neg c22] at H
                 exact absurd H (by simp)
               ·rw [if_neg c21] at H
                exact absurd H (by simp)
              ·rw [if_neg c20] at H
               exact absurd H (by simp)
             ·rw [if_neg c19] at H
              exact absurd H (by simp)
            case rest =>
             clear HC18
             try clear c1
             try clear p1
             try clear q1
             try clear hx1
             try clear c2
             try clear p2
             try clear q2
             try clear hx2
             try clear c4
             try clear c4b0
             try clear c4b1
             try clear c5
             try clear c5b0
             try clear c5b1
             try clear p6
             try clear c8
             try clear c8b0
             try clear c9
             try clear c9b0
             try clear c9b1
             try clear c10
             try clear c10b0
             try clear c11
             try clear c11b0
             try clear c12
             try clear p12
             try clear q12
             try clear hx12
             try clear hf12
             try clear c15
             try clear hx15
             try clear hf15
             try clear c17
             try clear c17b0
             try clear c18
             try clear c19
             try clear c19b0
             try clear c20
             try clear c20b0
             try clear c21
             try clear c21b0
             try clear c22
             try clear c22b0
             try clear p22
             try clear q22
             try clear hx22
             try clear p23
             try clear q23
             try clear hx23
             try clear c24
             try clear c24b0
             try clear c24b1
             try clear p25
             try clear q25
             try clear hx25
             try clear hx12_0
             try clear hx15_0
             try clear hx229_0
             try clear hx230_0
             try clear p1
             try clear p12
             try clear p2
             try clear p229
             try clear p23
             try clear p230
             try clear p25
             try clear p6
             try clear q1
             try clear q12
             try clear q229
             try clear q23
             try clear q230
             try clear q25
             obtain ⟨kq, x47_17, rfl, HA, HJ17, HO_7, HB⟩ := hcut
             cases kq with
             | zero => exact absurd HA.out (by simp [spec_l7Below.j2])
             | succ kj17 =>
              have H := HA.out
              clear HA
              simp only [spec_l7Below.j2] at H
              have HC26 := am H
              clear H
              go_upto_if 47 with (fail)
              go_cut [] (fun wc => ∃ (kq : Nat) (x7_25 : List (List Int)), Aside0 (spec_l7Below.j3 kq l0 l1 a2 x7_25 x8_1 x9_2 = some r) ∧ Aside0 (kq ≤ kj17) ∧ Aside0 (Kd.S (Kd.slice 3 (Kd.int .i64)) 24 wc w.heap.size (fun _ => True) (.slice (some ⟨go12, 0, none⟩) x7_2.length co12) x7_25) ∧ Aside0 (Below w.heap.size w wc))
              case first =>
               have H := HC26.out
               clear HC26
               by_cases c27 : x47_17 = true
               ·subst c27
                have H1 : (if 0 ≤ x8_1 then (if x8_1 < (x7_2.length : Int) then (if 0 ≤ x9_2 then (if x9_2 < ((rd_L3 x7_2 x8_1).length : Int) then (spec_l7Below.j3 kj17 l0 l1 a2 (x7_2.set (x8_1 : Int).toNat ((rd_L3 x7_2 x8_1).set (x9_2 : Int).toNat 1000)) x8_1 x9_2) else (none)) else (none)) else (none)) else (none)) = some r := by rw [if_pos rfl] at H; exact H
                clear H
                have H := H1
                clear H1
                by_cases c28 : 0 ≤ x8_1
                ·rw [if_pos c28] at H
                 have c28b0 : decide (0 ≤ x8_1) = true := decide_eq_true c28
                 clear c28
                 (first | rw [c28b0] | (simp only [i64_w, i32_w]; rw [c28b0]) | skip)
                 by_cases c29 : x8_1 < (x7_2.length : Int)
                 ·rw [if_pos c29] at H
                  have c29b0 : decide (x8_1 < (x7_2.length : Int)) = true := decide_eq_true c29
                  clear c29
                  by_cases c30 : 0 ≤ x9_2
                  ·rw [if_pos c30] at H
                   have c30b0 : decide (0 ≤ x9_2) = true := decide_eq_true c30
                   clear c30
                   by_cases c31 : x9_2 < ((rd_L3 x7_2 x8_1).length : Int)
                   ·rw [if_pos c31] at H
                    have c31b0 : decide (x9_2 < ((rd_L3 x7_2 x8_1).length : Int)) = true := decide_eq_true c31
                    clear c31
                    obtain ⟨y232, hy232⟩ : ∃ y_ : List Int, y_ = ((rd_L3 x7_2 x8_1).set (x9_2 : Int).toNat 1000) := ⟨_, rfl⟩
                    replace H : (spec_l7Below.j3 kj17 l0 l1 a2 (x7_2.set (x8_1 : Int).toNat y232) x8_1 x9_2) = some r := by first | (rw [hy232]; with_reducible exact H) | (have H2_ := (Option.bind_some _ _).symm.trans H; rw [hy232]; with_reducible exact H2_) | (have H2_ := (Option.bind_some _ _).symm.trans H; with_reducible exact H2_) | with_reducible exact H | (rw [hy232]; exact H) | exact H
                    have Ny232 := am hy232
                    clear hy232
                    obtain ⟨y234, hy234⟩ : ∃ y_ : List (List Int), y_ = (x7_2.set (x8_1 : Int).toNat y232) := ⟨_, rfl⟩
                    replace H : (spec_l7Below.j3 kj17 l0 l1 a2 y234 x8_1 x9_2) = some r := by first | (rw [hy234]; with_reducible exact H) | (have H2_ := (Option.bind_some _ _).symm.trans H; rw [hy234]; with_reducible exact H2_) | (have H2_ := (Option.bind_some _ _).symm.trans H; with_reducible exact H2_) | with_reducible exact H | (rw [hy234]; exact H) | exact H
                    have Ny234 := am hy234
                    clear hy234
                    have H' := am H
                    clear H
                    have p231 : 0 ≤ (x8_1 : Int) := od
                    have q231 : x8_1 < (x7_2.length : Int) := od
                    obtain ⟨ad231, A231_0, c231_0, e231, hx231_0, hl231_0, hi231_0⟩ := at_L3 (Kd.S_reads' HO_7.out).2.2 x8_1 p231 q231
                    obtain rfl : (⟨go12, 0, none⟩ : Addr) = ad231 := (by injection e231)
                    obtain ⟨ce231, hce231, hMe231, hcc231⟩ := Kd.S_get HO_7.out [] x8_1 p231 (by first | exact q231 | exact od | (have e_ := (Kd.S_reads' HO_7.out).1; omega))
                    obtain ⟨ve231_0, rfl, ge231_0⟩ := hMe231
                    have hv231_0 := hcc231 0 _ rfl
                    rw [Nat.add_zero, show ((Kd.slice 3 (Kd.int .i64))).sz = 1 from rfl, Nat.mul_one] at hv231_0
                    replace hv231_0 := Option.some.inj (hv231_0.symm.trans hx231_0)
                    rw [hv231_0] at ge231_0
                    have HL231_0 := am (show Kd.R (Kd.int .i64) 3 _ _ _ _ (rd_L3 x7_2 x8_1) from ge231_0)
                    clear hv231_0 ge231_0
                    have HX231_0 := am hx231_0
                    clear hcc231 hce231
                    (first | simp only [add_plain] at hx231_0 | simp only [add_at] at hx231_0 | simp only [Addr.add, Nat.zero_add] at hx231_0 | skip)
                    have HR231_0 := am hi231_0
                    have HC231_0 := am hl231_0
                    clear hi231_0 hl231_0
                    replace p231 := eq_true p231
                    replace q231 := eq_true q231
                    have p32 : 0 ≤ (x9_2 : Int) := od
                    have q32 : (x9_2 : Int) < (((rd_L3 x7_2 x8_1).length : Int) : Int) := od
                    obtain ⟨go32, co32, eo32, gb32, gl32, cl32, HG32⟩ := Kd.R_form HL231_0.out (by omega)
                    (first | cases eo32 | (injection eo32 with ea_ en_ ec_; (first | subst ea_ | (injection ea_ with ea_; subst ea_)); subst ec_; clear en_))
                    have GB32 := am gb32
                    have GG32 := am HG32
                    clear gb32 gl32 HG32
                    obtain ⟨hx32_0, hf32_0⟩ := Kd.R_celln 0 HL231_0.out (x9_2 : Int) p32 q32
                    replace p32 := eq_true p32
                    replace q32 := eq_true q32
                    have hq33 : (x8_1 : Int) < (x7_2.length : Int) := (by have h_ : (x8_1 : Int) < ((x7_2.length : Int) : Int) := od; first | exact h_ | (have e_ := (Kd.S_reads' HO_7.out).1; omega) | simpa only [List.length_set, List.length_set] using h_)
                    obtain ⟨oki33, ce33, hcl33, hM33, hcc33, hok33, hbk33⟩ := Kd.S_borrow HO_7.out [] (x8_1 : Int) (od) hq33
                    obtain ⟨ve33_0, rfl, ge33_0⟩ := hM33
                    have hv33 := hcc33 0 _ rfl
                    rw [Nat.add_zero, show ((Kd.slice 3 (Kd.int .i64))).sz = 1 from rfl, Nat.mul_one] at hv33
                    replace hv33 := Option.some.inj (hv33.symm.trans HX231_0.out)
                    subst hv33
                    clear hcc33 hcl33
                    replace ge33_0 := (show Kd.R (Kd.int .i64) 3 _ _ _ _ (rd_L3 x7_2 x8_1) from ge33_0)
                    have HP33 := Kd.R_putg ge33_0 (x9_2 : Int) 1000
                    go_wp2_with (first | ((with_reducible refine gate_store (t := 3) (p := 53) rfl ?_); refine store_event (t := 3) (p := 53) (v := ?vo_w34) (w1 := (wc.setCell ⟨go32, (x9_2 : Int).toNat, none⟩ (.int .i64 1000))) ?hg ?ho ?hn ?hr ?_; (case ho => rfl); (case hg => rfl); (case hn => rfl); (case hr => first | (go_simp; done) | (go_simp; rfl)); intro w34 hw; have hg : wc.grownBy w34 (some go32) := (by rw [hw]; exact HP33.2); have hz_ : Kd.R (Kd.int .i64) 3 w34 w.heap.size oki33 (.slice (some ⟨go32, 0, none⟩) (rd_L3 x7_2 x8_1).length c231_0) y232 := (by rw [hw, Ny232.out]; exact HP33.1); have hp_ : Kd.S (Kd.slice 3 (Kd.int .i64)) 24 w34 w.heap.size (fun _ => True) (.slice (some ⟨go12, 0, none⟩) x7_2.length co12) y234 := (by rw [Ny234.out]; exact hbk33 hg (fun k_ e_ => by injection e_ with e_; subst e_; exact ge33_0.1 _ rfl) (Kd.M_row hz_)); have hm_ := Kd.R_mono hz_ hok33; clear HP33 hbk33; have n0_ := am (hp_); have n1_ := am ((by rw [hw]; exact below_set (HB.out) GB32.out : Below w.heap.size w w34)); have n2_ := am (hm_); have n3_ := am ((Kd.R_reads' hm_).2.1); clear HO_7; clear HB; clear HL231_0; have HO_7 := n0_; have HB := n1_; have HL244 := n2_; have HC233 := n3_; clear n0_ n1_ n2_ n3_; clear hg hw hp_ hz_ hm_ hok33))
                    go_meet
                    case rel => exact ⟨_, (y234), H', ⟨by have := HK1.out; have := HK2.out; have := HJ17.out; first | omega | exact Nat.le_refl _⟩, ⟨by (try simp only [hl7_2]); (with_reducible repeat (first | apply Kd.S_alloc | apply Kd.S_drewN | apply Kd.S_drew)); exact HO_7.out⟩, ⟨bu HB.out⟩⟩
                   ·rw [if_neg c31] at H
                    exact absurd H (by simp)
                  ·rw [if_neg c30] at H
                   exact absurd H (by simp)
                 ·rw [if_neg c29] at H
                  exact absurd H (by simp)
                ·rw [if_neg c28] at H
                 exact absurd H (by simp)
               ·replace c27 := Bool.eq_false_iff.mpr c27
                subst c27
                have H1 : (spec_l7Below.j3 kj17 l0 l1 a2 x7_2 x8_1 x9_2) = some r := by rw [if_neg (show ¬ (false = true) by decide)] at H; exact H
                clear H
                have H := H1
                clear H1
                have H' := am H
                clear H
                go_wp2
                go_meet
                case rel => exact ⟨_, (x7_2), H', ⟨by have := HK1.out; have := HK2.out; have := HJ17.out; first | omega | exact Nat.le_refl _⟩, ⟨by (try simp only [hl7_2]); (with_reducible repeat (first | apply Kd.S_alloc | apply Kd.S_drewN | apply Kd.S_drew)); exact HO_7.out⟩, ⟨bu HB.out⟩⟩
              case rest =>
               clear HC26
               try clear c1
               try clear p1
               try clear q1
               try clear hx1
               try clear c2
               try clear p2
               try clear q2
               try clear hx2
               try clear c3
               try clear p3
               try clear q3
               try clear hx3
               try clear hf3
               try clear c4
               try clear c4b0
               try clear c4b1
               try clear c5
               try clear c5b0
               try clear c5b1
               try clear p6
               try clear c8
               try clear c8b0
               try clear c9
               try clear c9b0
               try clear c9b1
               try clear c10
               try clear c10b0
               try clear c11
               try clear c11b0
               try clear c12
               try clear p12
               try clear q12
               try clear hx12
               try clear hf12
               try clear c15
               try clear hx15
               try clear hf15
               try clear c17
               try clear c17b0
               try clear c18
               try clear c19
               try clear c19b0
               try clear c20
               try clear c20b0
               try clear c21
               try clear c21b0
               try clear c22
               try clear c22b0
               try clear p22
               try clear q22
               try clear hx22
               try clear c23
               try clear p23
               try clear q23
               try clear hx23
               try clear c24
               try clear c24b0
               try clear c24b1
               try clear p25
               try clear q25
               try clear hx25
               try clear c27
               try clear c28
               try clear c28b0
               try clear c29
               try clear c29b0
               try clear c30
               try clear c30b0
               try clear c31
               try clear c31b0
               try clear p32
               try clear q32
               try clear hx32
               try clear hf32
               try clear c33
               try clear q33
               try clear hx12_0
               try clear hx15_0
               try clear hx229_0
               try clear hx230_0
               try clear hx231_0
               try clear hx32_0
               try clear p1
               try clear p12
               try clear p2
               try clear p22
               try clear p229
               try clear p23
               try clear p230
               try clear p231
               try clear p25
               try clear p32
               try clear p6
               try clear q1
               try clear q12
               try clear q2
               try clear q22
               try clear q229
               try clear q23
               try clear q230
               try clear q231
               try clear q25
               try clear q32
               obtain ⟨kq, x7_25, HA, HJ25, HO_7, HB⟩ := hcut
               have hl7_25 := (Kd.S_reads' HO_7.out).1
               rw [hl7_25] at HO_7
               (try simp only [hl7_25])
               cases kq with
               | zero => exact absurd HA.out (by simp [spec_l7Below.j3])
               | succ kj25 =>
                have H := HA.out
                clear HA
                simp only [spec_l7Below.j3] at H
                have H' := am H
                clear H
                go_wp2
                go_loopg [10] kj25 (fun kq v10 w' => ∃ (x7_5 : List (List Int)) (x10_5 : Int), v10 = .int .i64 x10_5 ∧ Aside0 (spec_l7Below.l2 kq l0 l1 a2 x7_5 x8_1 x9_2 x10_5 = some r) ∧ Aside0 (kq ≤ kj25) ∧ Aside0 (Kd.S (Kd.slice 3 (Kd.int .i64)) 24 w' w.heap.size (fun _ => True) (.slice (some ⟨go12, 0, none⟩) x7_25.length co12) x7_5) ∧ Aside0 (Below w.heap.size w w'))
                case atStart => exact ⟨(x7_25), (wrap64 (x8_1 + 1)), (by first | rfl | (simp; done) | (simp [*]; done)), H', ⟨Nat.le_refl _⟩, ⟨by (try simp only [hl7_2]); (try simp only [hl7_25]); (with_reducible repeat (first | apply Kd.S_alloc | apply Kd.S_drewN | apply Kd.S_drew)); exact HO_7.out⟩, ⟨bu HB.out⟩⟩
                case round =>
                 clear H'
                 try clear c1
                 try clear p1
                 try clear q1
                 try clear hx1
                 try clear c2
                 try clear p2
                 try clear q2
                 try clear hx2
                 try clear c3
                 try clear p3
                 try clear q3
                 try clear hx3
                 try clear hf3
                 try clear c4
                 try clear c4b0
                 try clear c4b1
                 try clear c5
                 try clear c5b0
                 try clear c5b1
                 try clear p6
                 try clear c8
                 try clear c8b0
                 try clear c9
                 try clear c9b0
                 try clear c9b1
                 try clear c10
                 try clear c10b0
                 try clear c11
                 try clear c11b0
                 try clear c12
                 try clear p12
                 try clear q12
                 try clear hx12
                 try clear hf12
                 try clear c15
                 try clear hx15
                 try clear hf15
                 try clear c17
                 try clear c17b0
                 try clear c18
                 try clear c19
                 try clear c19b0
                 try clear c20
                 try clear c20b0
                 try clear c21
                 try clear c21b0
                 try clear c22
                 try clear c22b0
                 try clear p22
                 try clear q22
                 try clear hx22
                 try clear c23
                 try clear p23
                 try clear q23
                 try clear hx23
                 try clear c24
                 try clear c24b0
                 try clear c24b1
                 try clear p25
                 try clear q25
                 try clear hx25
                 try clear c27
                 try clear c28
                 try clear c28b0
                 try clear c29
                 try clear c29b0
                 try clear c30
                 try clear c30b0
                 try clear c31
                 try clear c31b0
                 try clear p32
                 try clear q32
                 try clear hx32
                 try clear hf32
                 try clear c33
                 try clear q33
                 try clear hx12_0
                 try clear hx15_0
                 try clear hx229_0
                 try clear hx230_0
                 try clear hx231_0
                 try clear hx32_0
                 try clear p1
                 try clear p12
                 try clear p2
                 try clear p22
                 try clear p229
                 try clear p23
                 try clear p230
                 try clear p231
                 try clear p25
                 try clear p3
                 try clear p32
                 try clear p6
                 try clear q1
                 try clear q12
                 try clear q2
                 try clear q22
                 try clear q229
                 try clear q23
                 try clear q230
                 try clear q231
                 try clear q25
                 try clear q3
                 try clear q32
                 try clear q33
                 obtain ⟨x7_5, x10_5, rfl, HA, HK5, HO_7, HB⟩ := hrel
                 have hl7_5 := (Kd.S_reads' HO_7.out).1
                 rw [hl7_5] at HO_7
                 (try simp only [hl7_5])
                 cases gk with
                 | zero => exact absurd HA.out (by simp [spec_l7Below.l2])
                 | succ k5 =>
                  have H := HA.out
                  clear HA
                  simp only [spec_l7Below.l2] at H
                  by_cases c35 : x10_5 < (l0.length : Int)
                  ·rw [if_pos c35] at H
                   have c35b0 : decide (x10_5 < (l0.length : Int)) = true := decide_eq_true c35
                   clear c35
                   by_cases c36 : 0 ≤ x10_5
                   ·rw [if_pos c36] at H
                    have c36b0 : decide (0 ≤ x10_5) = true := decide_eq_true c36
                    clear c36
                    by_cases c37 : x10_5 < (l1.length : Int)
                    ·rw [if_pos c37] at H
                     have c37b0 : decide (x10_5 < (l1.length : Int)) = true := decide_eq_true c37
                     clear c37
                     by_cases c38 : (rd l1 x10_5) = x8_1
                     ·rw [if_pos c38] at H
                      have c38b0 : ((rd l1 x10_5) == x8_1) = true := beq_iff_eq.mpr c38
                      have c38b1 : ((rd l1 x10_5) != x8_1) = false := bne_eq_false_iff_eq.mpr c38
                      clear c38
                      by_cases c39 : 0 ≤ x8_1
                      ·rw [if_pos c39] at H
                       have c39b0 : decide (0 ≤ x8_1) = true := decide_eq_true c39
                       clear c39
                       by_cases c40 : x8_1 < (x7_5.length : Int)
                       ·rw [if_pos c40] at H
                        have c40b0 : decide (x8_1 < (x7_5.length : Int)) = true := decide_eq_true c40
                        clear c40
                        by_cases c41 : 0 ≤ x9_2
                        ·rw [if_pos c41] at H
                         have c41b0 : decide (0 ≤ x9_2) = true := decide_eq_true c41
                         clear c41
                         by_cases c42 : x9_2 < ((rd_L3 x7_5 x8_1).length : Int)
                         ·rw [if_pos c42] at H
                          have c42b0 : decide (x9_2 < ((rd_L3 x7_5 x8_1).length : Int)) = true := decide_eq_true c42
                          clear c42
                          by_cases c43 : x10_5 < (x7_5.length : Int)
                          ·rw [if_pos c43] at H
                           have c43b0 : decide (x10_5 < (x7_5.length : Int)) = true := decide_eq_true c43
                           clear c43
                           replace H := Option.bind_eq_some_iff.mp H
                           obtain ⟨t240, A440, H⟩ := H
                           replace H : (spec_l7Below.l2 k5 l0 l1 a2 (x7_5.set (x8_1 : Int).toNat ((rd_L3 x7_5 x8_1).set (x9_2 : Int).toNat (wrap64 ((rd (rd_L3 x7_5 x8_1) x9_2) + t240)))) x8_1 x9_2 (wrap64 (x10_5 + 1))) = some r := H
                           have A44 := am A440
                           clear A440
                           obtain ⟨y241, hy241⟩ : ∃ y_ : List Int, y_ = ((rd_L3 x7_5 x8_1).set (x9_2 : Int).toNat (wrap64 ((rd (rd_L3 x7_5 x8_1) x9_2) + t240))) := ⟨_, rfl⟩
                           replace H : (spec_l7Below.l2 k5 l0 l1 a2 (x7_5.set (x8_1 : Int).toNat y241) x8_1 x9_2 (wrap64 (x10_5 + 1))) = some r := by first | (rw [hy241]; with_reducible exact H) | (have H2_ := (Option.bind_some _ _).symm.trans H; rw [hy241]; with_reducible exact H2_) | (have H2_ := (Option.bind_some _ _).symm.trans H; with_reducible exact H2_) | with_reducible exact H | (rw [hy241]; exact H) | exact H
                           have Ny241 := am hy241
                           clear hy241
                           obtain ⟨y243, hy243⟩ : ∃ y_ : List (List Int), y_ = (x7_5.set (x8_1 : Int).toNat y241) := ⟨_, rfl⟩
                           replace H : (spec_l7Below.l2 k5 l0 l1 a2 y243 x8_1 x9_2 (wrap64 (x10_5 + 1))) = some r := by first | (rw [hy243]; with_reducible exact H) | (have H2_ := (Option.bind_some _ _).symm.trans H; rw [hy243]; with_reducible exact H2_) | (have H2_ := (Option.bind_some _ _).symm.trans H; with_reducible exact H2_) | with_reducible exact H | (rw [hy243]; exact H) | exact H
                           have Ny243 := am hy243
                           clear hy243
                           have H' := am H
                           clear H
                           have p235 : 0 ≤ (x10_5 : Int) := od
                           have q235 : x10_5 < (l1.length : Int) := od
                           obtain ⟨ad235, e235, hx235_0⟩ := Kd.at_int HR1.out x10_5 p235 q235
                           cases e235
                           replace hx235_0 := (HB.out.cell (World.block_lt_of_cell? w _ hx235_0)).trans hx235_0
                           replace p235 := eq_true p235
                           replace q235 := eq_true q235
                           try go_wp2
                           have n0_ := am (Kd.S_drew HO_7.out)
                           have n1_ := am (below_drew1 HB.out)
                           clear HO_7
                           clear HB
                           have HO_7 := n0_
                           have HB := n1_
                           clear n0_ n1_
                           have p236 : 0 ≤ (x8_1 : Int) := od
                           have q236 : x8_1 < (x7_5.length : Int) := od
                           obtain ⟨ad236, A236_0, c236_0, e236, hx236_0, hl236_0, hi236_0⟩ := at_L3 (Kd.S_reads' HO_7.out).2.2 x8_1 p236 q236
                           obtain rfl : (⟨go12, 0, none⟩ : Addr) = ad236 := (by injection e236)
                           obtain ⟨ce236, hce236, hMe236, hcc236⟩ := Kd.S_get HO_7.out [] x8_1 p236 (by first | exact q236 | exact od | (have e_ := (Kd.S_reads' HO_7.out).1; omega))
                           obtain ⟨ve236_0, rfl, ge236_0⟩ := hMe236
                           have hv236_0 := hcc236 0 _ rfl
                           rw [Nat.add_zero, show ((Kd.slice 3 (Kd.int .i64))).sz = 1 from rfl, Nat.mul_one] at hv236_0
                           replace hv236_0 := Option.some.inj (hv236_0.symm.trans hx236_0)
                           rw [hv236_0] at ge236_0
                           have HL236_0 := am (show Kd.R (Kd.int .i64) 3 _ _ _ _ (rd_L3 x7_5 x8_1) from ge236_0)
                           clear hv236_0 ge236_0
                           have HX236_0 := am hx236_0
                           clear hcc236 hce236
                           (first | simp only [add_plain] at hx236_0 | simp only [add_at] at hx236_0 | simp only [Addr.add, Nat.zero_add] at hx236_0 | skip)
                           have HR236_0 := am hi236_0
                           have HC236_0 := am hl236_0
                           clear hi236_0 hl236_0
                           replace p236 := eq_true p236
                           replace q236 := eq_true q236
                           have p237 : 0 ≤ (x8_1 : Int) := od
                           have q237 : x8_1 < (x7_5.length : Int) := od
                           obtain ⟨ad237, A237_0, c237_0, e237, hx237_0, hl237_0, hi237_0⟩ := at_L3 (Kd.S_reads' HO_7.out).2.2 x8_1 p237 q237
                           obtain rfl : (⟨go12, 0, none⟩ : Addr) = ad237 := (by injection e237)
                           obtain ⟨ce237, hce237, hMe237, hcc237⟩ := Kd.S_get HO_7.out [] x8_1 p237 (by first | exact q237 | exact od | (have e_ := (Kd.S_reads' HO_7.out).1; omega))
                           obtain ⟨ve237_0, rfl, ge237_0⟩ := hMe237
                           have hv237_0 := hcc237 0 _ rfl
                           rw [Nat.add_zero, show ((Kd.slice 3 (Kd.int .i64))).sz = 1 from rfl, Nat.mul_one] at hv237_0
                           replace hv237_0 := Option.some.inj (hv237_0.symm.trans hx237_0)
                           rw [hv237_0] at ge237_0
                           have HL237_0 := am (show Kd.R (Kd.int .i64) 3 _ _ _ _ (rd_L3 x7_5 x8_1) from ge237_0)
                           clear hv237_0 ge237_0
                           have HX237_0 := am hx237_0
                           clear hcc237 hce237
                           (first | simp only [add_plain] at hx237_0 | simp only [add_at] at hx237_0 | simp only [Addr.add, Nat.zero_add] at hx237_0 | skip)
                           have HR237_0 := am hi237_0
                           have HC237_0 := am hl237_0
                           clear hi237_0 hl237_0
                           replace p237 := eq_true p237
                           replace q237 := eq_true q237
                           have ea_ := Option.some.inj (hx236_0.symm.trans hx237_0)
                           injection ea_ with ea_ en_ ec_
                           subst ea_
                           subst ec_
                           clear en_
                           have p238 : 0 ≤ (x9_2 : Int) := od
                           have q238 : x9_2 < ((rd_L3 x7_5 x8_1).length : Int) := od
                           obtain ⟨ad238, e238, hx238_0⟩ := Kd.at_int (by repeat (first | (with_reducible exact HR237_0.out) | (with_reducible refine Kd.C_alloc ?_ _) | (with_reducible refine Kd.C_drewN ?_ _) | (with_reducible refine Kd.C_drew ?_) | exact HR237_0.out)) x9_2 p238 q238
                           cases e238
                           replace p238 := eq_true p238
                           replace q238 := eq_true q238
                           have p239 : 0 ≤ (x10_5 : Int) := od
                           have q239 : x10_5 < (x7_5.length : Int) := od
                           obtain ⟨ad239, A239_0, c239_0, e239, hx239_0, hl239_0, hi239_0⟩ := at_L3 (Kd.S_reads' HO_7.out).2.2 x10_5 p239 q239
                           obtain rfl : (⟨go12, 0, none⟩ : Addr) = ad239 := (by injection e239)
                           obtain ⟨ce239, hce239, hMe239, hcc239⟩ := Kd.S_get HO_7.out [] x10_5 p239 (by first | exact q239 | exact od | (have e_ := (Kd.S_reads' HO_7.out).1; omega))
                           obtain ⟨ve239_0, rfl, ge239_0⟩ := hMe239
                           have hv239_0 := hcc239 0 _ rfl
                           rw [Nat.add_zero, show ((Kd.slice 3 (Kd.int .i64))).sz = 1 from rfl, Nat.mul_one] at hv239_0
                           replace hv239_0 := Option.some.inj (hv239_0.symm.trans hx239_0)
                           rw [hv239_0] at ge239_0
                           have HL239_0 := am (show Kd.R (Kd.int .i64) 3 _ _ _ _ (rd_L3 x7_5 x10_5) from ge239_0)
                           clear hv239_0 ge239_0
                           have HX239_0 := am hx239_0
                           clear hcc239 hce239
                           (first | simp only [add_plain] at hx239_0 | simp only [add_at] at hx239_0 | simp only [Addr.add, Nat.zero_add] at hx239_0 | skip)
                           have HR239_0 := am hi239_0
                           have HC239_0 := am hl239_0
                           clear hi239_0 hl239_0
                           replace p239 := eq_true p239
                           replace q239 := eq_true q239
                           refine start_ (n := 21) (S := fun w' => w'.cell? ⟨go12, (x8_1).toNat, none⟩ = some (.slice (some ad238) (rd_L3 x7_5 x8_1).length c236_0) ∧ w'.cell? ⟨go12, (x8_1).toNat, none⟩ = some (.slice (some ad238) (rd_L3 x7_5 x8_1).length c236_0) ∧ w'.cell? (ad238.add (x9_2).toNat) = some (.int .i64 (rd (rd_L3 x7_5 x8_1) x9_2)) ∧ w'.cell? ⟨go12, (x10_5).toNat, none⟩ = some (.slice A239_0 (rd_L3 x7_5 x10_5).length c239_0)) (ds := [20]) #[F,F,F,F,F,F,F,F,F,F,F,F,F,F,F,F,F,F,F,F,F] (by kernel_rfl) rfl rfl ⟨hx236_0, hx237_0, hx238_0, hx239_0⟩ (fun hHeld => ?_); refine with_tabW spec_l7Below.tab15 spec_l7Below.bits15 (fun HT_ HW_ => ?_)
                           generalize wr.drew = w46 at HO_7 HB HL236_0 HL237_0 HL239_0 HR236_0 HR237_0 HR239_0 HX236_0 HX237_0 HX239_0 hx236_0 hx237_0 hx238_0 hx239_0 hHeld ⊢
                           refine pz 0 (some 68) #[T,F,F,F,F,F,F,F,F,F,F,F,F,F,F,F,F,F,F,F,F] (any_of HT_.out (by kernel_rfl)) (h := ?_)
                           refine pz 1 (some 69) #[T,T,F,F,F,F,F,F,F,F,F,F,F,F,F,F,F,F,F,F,F] (any_of HT_.out (by kernel_rfl)) (h := ?_)
                           refine pz 2 (some 70) #[T,T,T,F,F,F,F,F,F,F,F,F,F,F,F,F,F,F,F,F,F] (any_of HT_.out (by kernel_rfl)) (h := ?_)
                           refine pz 4 (some 72) #[T,T,T,F,T,F,F,F,F,F,F,F,F,F,F,F,F,F,F,F,F] (any_of HT_.out (by kernel_rfl)) (h := ?_)
                           refine pz 5 (some 73) #[T,T,T,F,T,T,F,F,F,F,F,F,F,F,F,F,F,F,F,F,F] (any_of HT_.out (by kernel_rfl)) (h := ?_)
                           refine pz 6 (some 74) #[T,T,T,F,T,T,T,F,F,F,F,F,F,F,F,F,F,F,F,F,F] (any_of HT_.out (by kernel_rfl)) (h := ?_)
                           refine pz 7 (some 75) #[T,T,T,F,T,T,T,T,F,F,F,F,F,F,F,F,F,F,F,F,F] (any_of HT_.out (by kernel_rfl)) (h := ?_)
                           refine pz 9 (some 77) #[T,T,T,F,T,T,T,T,F,T,F,F,F,F,F,F,F,F,F,F,F] (any_of HT_.out (by kernel_rfl)) (h := ?_)
                           refine pz 12 (some 80) #[T,T,T,F,T,T,T,T,F,T,F,F,T,F,F,F,F,F,F,F,F] (any_of HT_.out (by kernel_rfl)) (h := ?_)
                           refine pz 13 (some 81) #[T,T,T,F,T,T,T,T,F,T,F,F,T,T,F,F,F,F,F,F,F] (any_of HT_.out (by kernel_rfl)) (h := ?_)
                           refine pz 14 (some 82) #[T,T,T,F,T,T,T,T,F,T,F,F,T,T,T,F,F,F,F,F,F] (any_of HT_.out (by kernel_rfl)) (h := ?_)
                           refine pz 16 (some 84) #[T,T,T,F,T,T,T,T,F,T,F,F,T,T,T,F,T,F,F,F,F] (any_of HT_.out (by kernel_rfl)) (h := ?_)
                           refine tz hHeld 3 (some 71) #[T,T,T,T,T,T,T,T,F,T,F,F,T,T,T,F,T,F,F,F,F] (take_ofW HT_.out HW_.out (by kernel_rfl)) (h := ?_)
                           refine tz hHeld 8 (some 76) #[T,T,T,T,T,T,T,T,T,T,F,F,T,T,T,F,T,F,F,F,F] (take_ofW HT_.out HW_.out (by kernel_rfl)) (h := ?_)
                           refine pz 10 (some 78) #[T,T,T,T,T,T,T,T,T,T,T,F,T,T,T,F,T,F,F,F,F] (any_of HT_.out (by kernel_rfl)) (h := ?_)
                           refine tz hHeld 11 (some 79) #[T,T,T,T,T,T,T,T,T,T,T,T,T,T,T,F,T,F,F,F,F] (take_ofW HT_.out HW_.out (by kernel_rfl)) (h := ?_)
                           refine tz hHeld 15 (some 83) #[T,T,T,T,T,T,T,T,T,T,T,T,T,T,T,T,T,F,F,F,F] (take_ofW HT_.out HW_.out (by kernel_rfl)) (h := ?_)
                           refine one_ (i := 17) (N := some 85) #[T,T,T,T,T,T,T,T,T,T,T,T,T,T,T,T,T,T,F,F,F] rfl rfl (one_of HT_.out (by kernel_rfl)) (by decide) (fun K hK => ?_)
                           refine goes_ Tryd.func29 (by kernel_rfl) rfl #[.slice A239_0 (rd_L3 x7_5 x10_5).length c239_0, .int .i64 x9_2] (by rfl) rfl rfl (by (try simp only [List.map_toArray, List.map_cons, List.map_nil]); first | done | rfl | (simp only [List.length_drop, List.length_take]; rfl)) ?_
                           with_reducible refine (spec_l7Best.calls k5 _ _ (rd_L3 x7_5 x10_5) x9_2 t240 _ ?side1 ?side2 A44.out).mono ?_
                           (case side1 => repeat (first | exact (by repeat (first | (with_reducible exact HR239_0.out) | (with_reducible refine Kd.C_alloc ?_ _) | (with_reducible refine Kd.C_drewN ?_ _) | (with_reducible refine Kd.C_drew ?_) | exact HR239_0.out)) | (with_reducible refine Kd.C_alloc ?_ _) | (with_reducible refine Kd.C_drewN ?_ _) | (with_reducible refine Kd.C_drew ?_)))
                           (case side2 => exact HC239_0.out)
                           rintro e w47 ⟨rfl, hb⟩
                           have HS0_ := (hb.cell (World.block_lt_of_cell? _ _ (hHeld.1))).trans (hHeld.1)
                           have HS1_ := (hb.cell (World.block_lt_of_cell? _ _ (hHeld.2.1))).trans (hHeld.2.1)
                           have HS2_ := (hb.cell (World.block_lt_of_cell? _ _ (hHeld.2.2.1))).trans (hHeld.2.2.1)
                           have HS3_ := (hb.cell (World.block_lt_of_cell? _ _ (hHeld.2.2.2))).trans (hHeld.2.2.2)
                           refine ⟨_, rfl, ?_⟩
                           have n0_ := am (Kd.S_below (by (with_reducible repeat (first | apply Kd.S_alloc | apply Kd.S_drewN | apply Kd.S_drew)); exact HO_7.out) hb)
                           have n1_ := am (Kd.R_below (ru HL236_0.out) hb)
                           have n2_ := am (Kd.R_below (ru HL237_0.out) hb)
                           have n3_ := am (Kd.R_below (ru HL239_0.out) hb)
                           have n4_ := am (Kd.C_below (by repeat (first | (with_reducible exact HR236_0.out) | (with_reducible refine Kd.C_alloc ?_ _) | (with_reducible refine Kd.C_drewN ?_ _) | (with_reducible refine Kd.C_drew ?_) | exact HR236_0.out)) hb)
                           have n5_ := am (pw_cell_below hb HX236_0.out)
                           have n6_ := am (Kd.C_below (by repeat (first | (with_reducible exact HR237_0.out) | (with_reducible refine Kd.C_alloc ?_ _) | (with_reducible refine Kd.C_drewN ?_ _) | (with_reducible refine Kd.C_drew ?_) | exact HR237_0.out)) hb)
                           have n7_ := am (pw_cell_below hb HX237_0.out)
                           have n8_ := am (Kd.C_below (by repeat (first | (with_reducible exact HR239_0.out) | (with_reducible refine Kd.C_alloc ?_ _) | (with_reducible refine Kd.C_drewN ?_ _) | (with_reducible refine Kd.C_drew ?_) | exact HR239_0.out)) hb)
                           have n9_ := am (pw_cell_below hb HX239_0.out)
                           have n10_ := am (below_step (bu HB.out) hb)
                           clear HO_7
                           clear HL236_0
                           clear HL237_0
                           clear HL239_0
                           clear HR236_0
                           clear HX236_0
                           clear HR237_0
                           clear HX237_0
                           clear HR239_0
                           clear HX239_0
                           clear HB
                           have HO_7 := n0_
                           have HL236_0 := n1_
                           have HL237_0 := n2_
                           have HL239_0 := n3_
                           have HR236_0 := n4_
                           have HX236_0 := n5_
                           have HR237_0 := n6_
                           have HX237_0 := n7_
                           have HR239_0 := n8_
                           have HX239_0 := n9_
                           have HB := n10_
                           clear n0_ n1_ n2_ n3_ n4_ n5_ n6_ n7_ n8_ n9_ n10_
                           (try clear hb)
                           (try clear hb2)
                           (try clear hk)
                           (try clear hi)
                           have p45 : 0 ≤ (x9_2 : Int) := od
                           have q45 : (x9_2 : Int) < (((rd_L3 x7_5 x8_1).length : Int) : Int) := od
                           obtain ⟨go45, co45, eo45, gb45, gl45, cl45, HG45⟩ := Kd.R_form HL236_0.out (by omega)
                           (first | cases eo45 | (injection eo45 with ea_ en_ ec_; (first | subst ea_ | (injection ea_ with ea_; subst ea_)); subst ec_; clear en_))
                           have GB45 := am gb45
                           have GG45 := am HG45
                           clear gb45 gl45 HG45
                           (first | simp only [add_plain] at hx238_0 | skip)
                           obtain ⟨hx45_0, hf45_0⟩ := Kd.R_celln 0 HL236_0.out (x9_2 : Int) p45 q45
                           replace p45 := eq_true p45
                           replace q45 := eq_true q45
                           have hq48 : (x8_1 : Int) < (x7_5.length : Int) := (by have h_ : (x8_1 : Int) < ((x7_5.length : Int) : Int) := od; first | exact h_ | (have e_ := (Kd.S_reads' HO_7.out).1; omega) | simpa only [List.length_set, List.length_set] using h_)
                           obtain ⟨oki48, ce48, hcl48, hM48, hcc48, hok48, hbk48⟩ := Kd.S_borrow HO_7.out [] (x8_1 : Int) (od) hq48
                           obtain ⟨ve48_0, rfl, ge48_0⟩ := hM48
                           have hv48 := hcc48 0 _ rfl
                           rw [Nat.add_zero, show ((Kd.slice 3 (Kd.int .i64))).sz = 1 from rfl, Nat.mul_one] at hv48
                           replace hv48 := Option.some.inj (hv48.symm.trans HX236_0.out)
                           subst hv48
                           clear hcc48 hcl48
                           replace ge48_0 := (show Kd.R (Kd.int .i64) 3 _ _ _ _ (rd_L3 x7_5 x8_1) from ge48_0)
                           have HP48 := Kd.R_putg ge48_0 (x9_2 : Int) (wrap64 ((rd (rd_L3 x7_5 x8_1) x9_2) + t240))
                           rw [← Ny241.out] at HP48
                           have HS48 := hbk48 HP48.2 (fun k_ e_ => by injection e_ with e_; subst e_; exact ge48_0.1 _ rfl) (x' := y241) (Kd.M_row HP48.1)
                           rw [← Ny243.out] at HS48
                           have HQ48 := am HS48
                           clear HP48 HS48 hbk48 hok48
                           refine hK.out _ _ ⟨HS0_, HS1_, HS2_, HS3_⟩ (fun hHeld => ?_)
                           clear hK K
                           refine norm_ (a' := ?_) ?_ ?_
                           rotate_left
                           ·show Act.put _ (some 85) _ = _
                            simp only [Act.put, sA, sZ, sS, i64_w, i32_w]
                            rfl
                           refine pz 18 (some 86) #[T,T,T,T,T,T,T,T,T,T,T,T,T,T,T,T,T,T,T,F,F] (any_of HT_.out (by kernel_rfl)) (h := ?_)
                           refine pz 19 (some 87) #[T,T,T,T,T,T,T,T,T,T,T,T,T,T,T,T,T,T,T,T,F] (any_of HT_.out (by kernel_rfl)) (h := ?_)
                           refine last_ (i := 20) (N := none) #[T,T,T,T,T,T,T,T,T,T,T,T,T,T,T,T,T,T,T,T,T] rfl rfl (one_of HT_.out (by kernel_rfl)) (by decide) (fun K hK => ?_)
                           refine skip_ (w1 := ?_) (by rfl) rfl ?_ ?_
                           rotate_left
                           ·go_simp
                            rfl
                           refine hK.out _ _ ?_
                           clear hK K
                           refine done_ (done_of HT_.out (by kernel_rfl)) ?_
                           try go_wp2
                           (try simp only [← hl7_5])
                           go_roundg k5
                           case measure => have := HK1.out; have := HK2.out; have := HJ17.out; have := HJ25.out; have := HK5.out; omega
                           case rel => exact ⟨(y243), (wrap64 (x10_5 + 1)), (by first | rfl | (simp; done) | (simp [*]; done)), H', ⟨by have := HK1.out; have := HK2.out; have := HJ17.out; have := HJ25.out; have := HK5.out; omega⟩, ⟨by (try simp only [hl7_2]); (try simp only [hl7_25]); (try simp only [hl7_5]); (with_reducible repeat (first | apply Kd.S_alloc | apply Kd.S_drewN | apply Kd.S_drew)); exact HQ48.out⟩, ⟨by repeat (first | (with_reducible first | exact HB.out | apply below_alloc | apply pw_below_drewN | apply below_drew1 | refine below_set ?_ GB45.out) | exact HB.out)⟩⟩
                          ·rw [if_neg c43] at H
                           exact absurd H (by simp)
                         ·rw [if_neg c42] at H
                          exact absurd H (by simp)
                        ·rw [if_neg c41] at H
                         exact absurd H (by simp)
                       ·rw [if_neg c40] at H
                        exact absurd H (by simp)
                      ·rw [if_neg c39] at H
                       exact absurd H (by simp)
                     ·rw [if_neg c38] at H
                      have c38b0 : ((rd l1 x10_5) == x8_1) = false := beq_eq_false_iff_ne.mpr c38
                      have c38b1 : ((rd l1 x10_5) != x8_1) = true := bne_iff_ne.mpr c38
                      have H' := am H
                      clear H
                      have p235 : 0 ≤ (x10_5 : Int) := od
                      have q235 : x10_5 < (l1.length : Int) := od
                      obtain ⟨ad235, e235, hx235_0⟩ := Kd.at_int HR1.out x10_5 p235 q235
                      cases e235
                      replace hx235_0 := (HB.out.cell (World.block_lt_of_cell? w _ hx235_0)).trans hx235_0
                      replace p235 := eq_true p235
                      replace q235 := eq_true q235
                      go_wp2
                      (try simp only [← hl7_5])
                      go_roundg k5
                      case measure => have := HK1.out; have := HK2.out; have := HJ17.out; have := HJ25.out; have := HK5.out; omega
                      case rel => exact ⟨(x7_5), (wrap64 (x10_5 + 1)), (by first | rfl | (simp; done) | (simp [*]; done)), H', ⟨by have := HK1.out; have := HK2.out; have := HJ17.out; have := HJ25.out; have := HK5.out; omega⟩, ⟨by (try simp only [hl7_2]); (try simp only [hl7_25]); (try simp only [hl7_5]); (with_reducible repeat (first | apply Kd.S_alloc | apply Kd.S_drewN | apply Kd.S_drew)); exact HO_7.out⟩, ⟨bu HB.out⟩⟩
                    ·rw [if_neg c37] at H
                     exact absurd H (by simp)
                   ·rw [if_neg c36] at H
                    exact absurd H (by simp)
                  ·rw [if_neg c35] at H
                   have c35b0 : decide (x10_5 < (l0.length : Int)) = false := decide_eq_false c35
                   clear c35
                   have H' := am H
                   clear H
                   go_wp2
                   (try simp only [← hl7_2, ← hl7_25, ← hl7_5])
                   go_roundg k5
                   case measure => have := HK1.out; have := HK2.out; have := HJ17.out; have := HJ25.out; have := HK5.out; omega
                   case rel => exact ⟨(x7_5), (wrap64 (x9_2 + 1)), (by first | rfl | (simp; done) | (simp [*]; done)), H', ⟨by have := HK1.out; have := HK2.out; have := HJ17.out; have := HJ25.out; have := HK5.out; omega⟩, ⟨by (try simp only [hl7_2]); (try simp only [hl7_25]); (try simp only [hl7_5]); (with_reducible repeat (first | apply Kd.S_alloc | apply Kd.S_drewN | apply Kd.S_drew)); exact HO_7.out⟩, ⟨bu HB.out⟩⟩
           ·rw [if_neg c17] at H
            have c17b0 : decide (x9_2 < 4) = false := decide_eq_false c17
            clear c17
            have H' := am H
            clear H
            go_wp2
            (try simp only [← hl7_2])
            go_roundg k2
            case measure => have := HK1.out; have := HK2.out; omega
            case rel => exact ⟨(x7_2), (wrap64 (x8_1 - 1)), (by first | rfl | (simp; done) | (simp [*]; done)), H', ⟨by have := HK1.out; have := HK2.out; omega⟩, ⟨by (try simp only [hl7_2]); (with_reducible repeat (first | apply Kd.S_alloc | apply Kd.S_drewN | apply Kd.S_drew)); exact HO_7.out⟩, ⟨bu HB.out⟩⟩
        ·rw [if_neg c11] at H
         exact absurd H (by simp)
       ·rw [if_neg c10] at H
        exact absurd H (by simp)
      ·rw [if_neg c9] at H
       exact absurd H (by simp)
     ·rw [if_neg c8] at H
      have c8b0 : decide (0 ≤ x8_1) = false := decide_eq_false c8
      clear c8
      obtain rfl := Option.some.inj H
      go_wp2
      go_ret
      exact ⟨_, by first | rfl | (simp [errW_none, errW_some] <;> rfl) | (simp [*, errW_none, errW_some] <;> rfl), by (with_reducible repeat (first | apply Kd.S_alloc | apply Kd.S_drewN | apply Kd.S_drew)); exact HO_7.out, bu HB.out⟩
  ·rw [if_neg c5] at H
   exact absurd H (by simp)
 ·rw [if_neg c4] at H
  exact absurd H (by simp)

end Go.Proofs.YtdodkidnblmheaaDoor.SL
