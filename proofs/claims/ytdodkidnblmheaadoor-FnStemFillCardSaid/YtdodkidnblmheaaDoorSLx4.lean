-- Made by this session's gprint.py out of the translation. Not trusted: Lean checks it.
import Derived.Test.YtdodkidnblmheaaDoorSLx0
import Derived.Test.YtdodkidnblmheaaDoorSLx2
import Derived.Test.YtdodkidnblmheaaDoorSLx3
namespace Go.Proofs.YtdodkidnblmheaaDoor.SL
open Go.RowKit Go.Proofs.YtdodkidnblmheaaDoorW.PrintWords Go.Proofs.YtdodkidnblmheaaDoorW.PrintLast Go.Proofs.YtdodkidnblmheaaDoorW.PrintMore
attribute [local go_sem] max2_int min2_int max_two min_two max_three min_three max_four min_four   -- for this text's walks alone
set_option linter.unusedVariables false
set_option linter.unusedSimpArgs false

/-! ### spec_l7Letter: function 19 -/
mutual
def spec_l7Letter.l0 : Nat → List Int → Int → Int → Int → Option (Int)
 | 0, _, _, _, _ => none
 | k + 1, x0, x1, x5, x6 => if x6 < 4 then (if 0 ≤ x6 then (if x6 < (x0.length : Int) then (if 0 ≤ x5 then (if x5 < (x0.length : Int) then (if x1 ≥ 0 then (spec_l7Letter.j1 k x0 x1 x5 x6 (rd x0 x6) (rd x0 x5) (x6 != x1)) else (spec_l7Letter.j1 k x0 x1 x5 x6 (rd x0 x6) (rd x0 x5) false)) else (none)) else (none)) else (none)) else (none)) else (some x5)
def spec_l7Letter.j1 : Nat → List Int → Int → Int → Int → Int → Int → Bool → Option (Int)
 | 0, _, _, _, _, _, _, _ => none
 | k + 1, x0, x1, x5, x6, x7, x8, x27 => if x27 = true then (spec_l7Letter.j2 k x0 x1 x5 x6 (wrap64 (x7 + 1)) x8) else (spec_l7Letter.j2 k x0 x1 x5 x6 x7 x8)
def spec_l7Letter.j2 : Nat → List Int → Int → Int → Int → Int → Int → Option (Int)
 | 0, _, _, _, _, _, _ => none
 | k + 1, x0, x1, x5, x6, x7, x8 => if x1 ≥ 0 then (spec_l7Letter.j3 k x0 x1 x5 x6 x7 x8 (x5 != x1)) else (spec_l7Letter.j3 k x0 x1 x5 x6 x7 x8 false)
def spec_l7Letter.j3 : Nat → List Int → Int → Int → Int → Int → Int → Bool → Option (Int)
 | 0, _, _, _, _, _, _, _ => none
 | k + 1, x0, x1, x5, x6, x7, x8, x36 => if x36 = true then (if x7 < (wrap64 (x8 + 1)) then (spec_l7Letter.l0 k x0 x1 x6 (wrap64 (x6 + 1))) else (spec_l7Letter.l0 k x0 x1 x5 (wrap64 (x6 + 1)))) else (if x7 < x8 then (spec_l7Letter.l0 k x0 x1 x6 (wrap64 (x6 + 1))) else (spec_l7Letter.l0 k x0 x1 x5 (wrap64 (x6 + 1))))
end
def spec_l7Letter.f (k : Nat) (l0 : List Int) (a1 : Int) : Option (Int) := spec_l7Letter.l0 k l0 a1 0 0
set_option maxHeartbeats 8000000 in
set_option maxRecDepth 100000 in
theorem spec_l7Letter.calls (k : Nat) (A0 : Option Addr) (c0 : Nat) (l0 : List Int) (a1 : Int) (r : Int) (w : World) (hr0 : Kd.C (Kd.int .i64) w A0 l0.length l0) (hc0 : l0.length ≤ c0) (h : spec_l7Letter.f k l0 a1 = some r) :
  Calls Tryd.prog 19 #[.slice A0 l0.length c0, .int .i64 a1] w fun e w' => e = .returned (.int .i64 r) ∧ Drawn0 w w' := by
 have HR0 := am hr0
 have HC0 := am hc0
 clear hr0 hc0
 have H : (spec_l7Letter.l0 k l0 a1 0 0) = some r := h
 clear h
 have H' := am H
 clear H
 go_enter Tryd.func19, Tryd.ntmps19
 go_wp2
 go_loopg [5, 6] k (fun kq v5 v6 w' => ∃ (x5_1 : Int) (x6_1 : Int), v5 = .int .i64 x5_1 ∧ v6 = .int .i64 x6_1 ∧ Aside0 (spec_l7Letter.l0 kq l0 a1 x5_1 x6_1 = some r) ∧ Aside0 (kq ≤ k) ∧ Drawn0 w w')
 case atStart => exact ⟨(0), (0), (by first | rfl | (simp; done) | (simp [*]; done)), (by first | rfl | (simp; done) | (simp [*]; done)), H', ⟨Nat.le_refl _⟩, by repeat (first | exact Drawn0.refl _ | apply Drawn0.step)⟩
 case round =>
  clear H'
  try clear c1
  try clear p2
  obtain ⟨x5_1, x6_1, rfl, rfl, HA, HK1, ⟨m1, rfl⟩⟩ := hrel
  cases gk with
  | zero => exact absurd HA.out (by simp [spec_l7Letter.l0])
  | succ k1 =>
   have H := HA.out
   clear HA
   simp only [spec_l7Letter.l0] at H
   by_cases c3 : x6_1 < 4
   ·rw [if_pos c3] at H
    have c3b0 : decide (x6_1 < 4) = true := decide_eq_true c3
    clear c3
    by_cases c4 : 0 ≤ x6_1
    ·rw [if_pos c4] at H
     have c4b0 : decide (0 ≤ x6_1) = true := decide_eq_true c4
     clear c4
     by_cases c5 : x6_1 < (l0.length : Int)
     ·rw [if_pos c5] at H
      have c5b0 : decide (x6_1 < (l0.length : Int)) = true := decide_eq_true c5
      clear c5
      by_cases c6 : 0 ≤ x5_1
      ·rw [if_pos c6] at H
       have c6b0 : decide (0 ≤ x5_1) = true := decide_eq_true c6
       clear c6
       by_cases c7 : x5_1 < (l0.length : Int)
       ·rw [if_pos c7] at H
        have c7b0 : decide (x5_1 < (l0.length : Int)) = true := decide_eq_true c7
        clear c7
        have HC8 := am H
        clear H
        have p245 : 0 ≤ (x6_1 : Int) := od
        have q245 : x6_1 < (l0.length : Int) := od
        obtain ⟨ad245, e245, hx245_0⟩ := Kd.at_int HR0.out x6_1 p245 q245
        cases e245
        replace p245 := eq_true p245
        replace q245 := eq_true q245
        have p246 : 0 ≤ (x5_1 : Int) := od
        have q246 : x5_1 < (l0.length : Int) := od
        obtain ⟨ad246, e246, hx246_0⟩ := Kd.at_int HR0.out x5_1 p246 q246
        obtain rfl : ad245 = ad246 := (by injection e246)
        replace p246 := eq_true p246
        replace q246 := eq_true q246
        go_upto_region 7 with (fail)
        go_cut [27] (fun v27 wc => ∃ (kq : Nat) (x27_7 : Bool), v27 = .bool x27_7 ∧ Aside0 (spec_l7Letter.j1 kq l0 a1 x5_1 x6_1 (rd l0 x6_1) (rd l0 x5_1) x27_7 = some r) ∧ Aside0 (kq ≤ k1) ∧ Drawn0 w wc)
        case first =>
         have H := HC8.out
         clear HC8
         by_cases c9 : a1 ≥ 0
         ·rw [if_pos c9] at H
          have c9b0 : decide (0 ≤ a1) = true := decide_eq_true c9
          clear c9
          (first | rw [c9b0] | (simp only [i64_w, i32_w]; rw [c9b0]) | skip)
          have H' := am H
          clear H
          go_wp2
          go_meet
          case rel => exact ⟨_, ((x6_1 != a1)), (by first | rfl | (simp; done) | (simp [*]; done)), H', ⟨by have := HK1.out; first | omega | exact Nat.le_refl _⟩, by repeat (first | exact Drawn0.refl _ | apply Drawn0.step)⟩
         ·rw [if_neg c9] at H
          have c9b0 : decide (0 ≤ a1) = false := decide_eq_false c9
          clear c9
          (first | rw [c9b0] | (simp only [i64_w, i32_w]; rw [c9b0]) | skip)
          have H' := am H
          clear H
          go_wp2
          go_meet
          case rel => exact ⟨_, (false), (by first | rfl | (simp; done) | (simp [*]; done)), H', ⟨by have := HK1.out; first | omega | exact Nat.le_refl _⟩, by repeat (first | exact Drawn0.refl _ | apply Drawn0.step)⟩
        case rest =>
         clear HC8
         try clear c1
         try clear p2
         try clear q2
         try clear hx2
         try clear c3
         try clear c3b0
         try clear c4
         try clear c4b0
         try clear c5
         try clear c5b0
         try clear c6
         try clear c6b0
         try clear c7
         try clear c7b0
         try clear c9
         try clear c9b0
         try clear hx245_0
         try clear hx246_0
         try clear p2
         try clear p245
         try clear p246
         try clear q245
         try clear q246
         obtain ⟨kq, x27_7, rfl, HA, HJ7, ⟨mc7, rfl⟩⟩ := hcut
         cases kq with
         | zero => exact absurd HA.out (by simp [spec_l7Letter.j1])
         | succ kj7 =>
          have H := HA.out
          clear HA
          simp only [spec_l7Letter.j1] at H
          have HC10 := am H
          clear H
          go_upto_if 27 with (fail)
          go_cut [7] (fun v7 wc => ∃ (kq : Nat) (x7_9 : Int), v7 = .int .i64 x7_9 ∧ Aside0 (spec_l7Letter.j2 kq l0 a1 x5_1 x6_1 x7_9 (rd l0 x5_1) = some r) ∧ Aside0 (kq ≤ kj7) ∧ Drawn0 w wc)
          case first =>
           have H := HC10.out
           clear HC10
           by_cases c11 : x27_7 = true
           ·subst c11
            have H1 : (spec_l7Letter.j2 kj7 l0 a1 x5_1 x6_1 (wrap64 ((rd l0 x6_1) + 1)) (rd l0 x5_1)) = some r := by rw [if_pos rfl] at H; exact H
            clear H
            have H := H1
            clear H1
            have H' := am H
            clear H
            go_wp2
            go_meet
            case rel => exact ⟨_, (wrap64 ((rd l0 x6_1) + 1)), (by first | rfl | (simp; done) | (simp [*]; done)), H', ⟨by have := HK1.out; have := HJ7.out; first | omega | exact Nat.le_refl _⟩, by repeat (first | exact Drawn0.refl _ | apply Drawn0.step)⟩
           ·replace c11 := Bool.eq_false_iff.mpr c11
            subst c11
            have H1 : (spec_l7Letter.j2 kj7 l0 a1 x5_1 x6_1 (rd l0 x6_1) (rd l0 x5_1)) = some r := by rw [if_neg (show ¬ (false = true) by decide)] at H; exact H
            clear H
            have H := H1
            clear H1
            have H' := am H
            clear H
            go_wp2
            go_meet
            case rel => exact ⟨_, ((rd l0 x6_1)), (by first | rfl | (simp; done) | (simp [*]; done)), H', ⟨by have := HK1.out; have := HJ7.out; first | omega | exact Nat.le_refl _⟩, by repeat (first | exact Drawn0.refl _ | apply Drawn0.step)⟩
          case rest =>
           clear HC10
           try clear c1
           try clear p2
           try clear q2
           try clear hx2
           try clear c3
           try clear c3b0
           try clear c4
           try clear c4b0
           try clear c5
           try clear c5b0
           try clear c6
           try clear c6b0
           try clear p6
           try clear c7
           try clear c7b0
           try clear c9
           try clear c9b0
           try clear c11
           try clear hx245_0
           try clear hx246_0
           try clear p2
           try clear p245
           try clear p246
           try clear q2
           try clear q245
           try clear q246
           obtain ⟨kq, x7_9, rfl, HA, HJ9, ⟨mc9, rfl⟩⟩ := hcut
           cases kq with
           | zero => exact absurd HA.out (by simp [spec_l7Letter.j2])
           | succ kj9 =>
            have H := HA.out
            clear HA
            simp only [spec_l7Letter.j2] at H
            have HC12 := am H
            clear H
            go_upto_region 9 with (fail)
            go_cut [36] (fun v36 wc => ∃ (kq : Nat) (x36_11 : Bool), v36 = .bool x36_11 ∧ Aside0 (spec_l7Letter.j3 kq l0 a1 x5_1 x6_1 x7_9 (rd l0 x5_1) x36_11 = some r) ∧ Aside0 (kq ≤ kj9) ∧ Drawn0 w wc)
            case first =>
             have H := HC12.out
             clear HC12
             by_cases c13 : a1 ≥ 0
             ·rw [if_pos c13] at H
              have c13b0 : decide (0 ≤ a1) = true := decide_eq_true c13
              clear c13
              (first | rw [c13b0] | (simp only [i64_w, i32_w]; rw [c13b0]) | skip)
              have H' := am H
              clear H
              go_wp2
              go_meet
              case rel => exact ⟨_, ((x5_1 != a1)), (by first | rfl | (simp; done) | (simp [*]; done)), H', ⟨by have := HK1.out; have := HJ7.out; have := HJ9.out; first | omega | exact Nat.le_refl _⟩, by repeat (first | exact Drawn0.refl _ | apply Drawn0.step)⟩
             ·rw [if_neg c13] at H
              have c13b0 : decide (0 ≤ a1) = false := decide_eq_false c13
              clear c13
              (first | rw [c13b0] | (simp only [i64_w, i32_w]; rw [c13b0]) | skip)
              have H' := am H
              clear H
              go_wp2
              go_meet
              case rel => exact ⟨_, (false), (by first | rfl | (simp; done) | (simp [*]; done)), H', ⟨by have := HK1.out; have := HJ7.out; have := HJ9.out; first | omega | exact Nat.le_refl _⟩, by repeat (first | exact Drawn0.refl _ | apply Drawn0.step)⟩
            case rest =>
             clear HC12
             try clear c1
             try clear p2
             try clear q2
             try clear hx2
             try clear c3
             try clear c3b0
             try clear c4
             try clear c4b0
             try clear c5
             try clear c5b0
             try clear c6
             try clear c6b0
             try clear p6
             try clear c7
             try clear c7b0
             try clear c9
             try clear c9b0
             try clear c11
             try clear c13
             try clear c13b0
             try clear hx245_0
             try clear hx246_0
             try clear p2
             try clear p245
             try clear p246
             try clear p6
             try clear q2
             try clear q245
             try clear q246
             obtain ⟨kq, x36_11, rfl, HA, HJ11, ⟨mc11, rfl⟩⟩ := hcut
             cases kq with
             | zero => exact absurd HA.out (by simp [spec_l7Letter.j3])
             | succ kj11 =>
              have H := HA.out
              clear HA
              simp only [spec_l7Letter.j3] at H
              by_cases c14 : x36_11 = true
              ·subst c14
               have H1 : (if x7_9 < (wrap64 ((rd l0 x5_1) + 1)) then (spec_l7Letter.l0 kj11 l0 a1 x6_1 (wrap64 (x6_1 + 1))) else (spec_l7Letter.l0 kj11 l0 a1 x5_1 (wrap64 (x6_1 + 1)))) = some r := by rw [if_pos rfl] at H; exact H
               clear H
               have H := H1
               clear H1
               by_cases c15 : x7_9 < (wrap64 ((rd l0 x5_1) + 1))
               ·rw [if_pos c15] at H
                have c15b0 : decide (x7_9 < (wrap64 ((rd l0 x5_1) + 1))) = true := decide_eq_true c15
                clear c15
                have H' := am H
                clear H
                go_wp2
                go_roundg kj11
                case measure => have := HK1.out; have := HJ7.out; have := HJ9.out; have := HJ11.out; omega
                case rel => exact ⟨(x6_1), (wrap64 (x6_1 + 1)), (by first | rfl | (simp; done) | (simp [*]; done)), (by first | rfl | (simp; done) | (simp [*]; done)), H', ⟨by have := HK1.out; have := HJ7.out; have := HJ9.out; have := HJ11.out; omega⟩, by repeat (first | exact Drawn0.refl _ | apply Drawn0.step)⟩
               ·rw [if_neg c15] at H
                have c15b0 : decide (x7_9 < (wrap64 ((rd l0 x5_1) + 1))) = false := decide_eq_false c15
                clear c15
                have H' := am H
                clear H
                go_wp2
                go_roundg kj11
                case measure => have := HK1.out; have := HJ7.out; have := HJ9.out; have := HJ11.out; omega
                case rel => exact ⟨(x5_1), (wrap64 (x6_1 + 1)), (by first | rfl | (simp; done) | (simp [*]; done)), (by first | rfl | (simp; done) | (simp [*]; done)), H', ⟨by have := HK1.out; have := HJ7.out; have := HJ9.out; have := HJ11.out; omega⟩, by repeat (first | exact Drawn0.refl _ | apply Drawn0.step)⟩
              ·replace c14 := Bool.eq_false_iff.mpr c14
               subst c14
               have H1 : (if x7_9 < (rd l0 x5_1) then (spec_l7Letter.l0 kj11 l0 a1 x6_1 (wrap64 (x6_1 + 1))) else (spec_l7Letter.l0 kj11 l0 a1 x5_1 (wrap64 (x6_1 + 1)))) = some r := by rw [if_neg (show ¬ (false = true) by decide)] at H; exact H
               clear H
               have H := H1
               clear H1
               by_cases c16 : x7_9 < (rd l0 x5_1)
               ·rw [if_pos c16] at H
                have c16b0 : decide (x7_9 < (rd l0 x5_1)) = true := decide_eq_true c16
                clear c16
                have H' := am H
                clear H
                go_wp2
                go_roundg kj11
                case measure => have := HK1.out; have := HJ7.out; have := HJ9.out; have := HJ11.out; omega
                case rel => exact ⟨(x6_1), (wrap64 (x6_1 + 1)), (by first | rfl | (simp; done) | (simp [*]; done)), (by first | rfl | (simp; done) | (simp [*]; done)), H', ⟨by have := HK1.out; have := HJ7.out; have := HJ9.out; have := HJ11.out; omega⟩, by repeat (first | exact Drawn0.refl _ | apply Drawn0.step)⟩
               ·rw [if_neg c16] at H
                have c16b0 : decide (x7_9 < (rd l0 x5_1)) = false := decide_eq_false c16
                clear c16
                have H' := am H
                clear H
                go_wp2
                go_roundg kj11
                case measure => have := HK1.out; have := HJ7.out; have := HJ9.out; have := HJ11.out; omega
                case rel => exact ⟨(x5_1), (wrap64 (x6_1 + 1)), (by first | rfl | (simp; done) | (simp [*]; done)), (by first | rfl | (simp; done) | (simp [*]; done)), H', ⟨by have := HK1.out; have := HJ7.out; have := HJ9.out; have := HJ11.out; omega⟩, by repeat (first | exact Drawn0.refl _ | apply Drawn0.step)⟩
       ·rw [if_neg c7] at H
        exact absurd H (by simp)
      ·rw [if_neg c6] at H
       exact absurd H (by simp)
     ·rw [if_neg c5] at H
      exact absurd H (by simp)
    ·rw [if_neg c4] at H
     exact absurd H (by simp)
   ·rw [if_neg c3] at H
    have c3b0 : decide (x6_1 < 4) = false := decide_eq_false c3
    clear c3
    obtain rfl := Option.some.inj H
    go_wp2
    go_ret
    exact ⟨by first | rfl | (simp; done) | (simp [*]; done), by repeat (first | exact Drawn0.refl _ | apply Drawn0.step)⟩

/-! ### spec_StemFill: function 6 -/
mutual
def spec_StemFill.l0 : Nat → List ByteArray → List Int → List ByteArray → Int → Option (List ByteArray × Bool)
 | 0, _, _, _, _ => none
 | k + 1, x0, x1, x6, x7 => if x7 < (x0.length : Int) then (if x6.length < 8796093022208 then (spec_StemFill.l0 k x0 x1 (x6 ++ [(⟨#[]⟩ : ByteArray)]) (wrap64 (x7 + 1))) else (none)) else (spec_StemFill.l1 k x0 x1 x6 0)
def spec_StemFill.l1 : Nat → List ByteArray → List Int → List ByteArray → Int → Option (List ByteArray × Bool)
 | 0, _, _, _, _ => none
 | k + 1, x0, x1, x6, x8 => if 0 < (x0.length : Int) then (if x8 < ((rdOf ByteArray.empty x0 0).size : Int) then ((spec_l7Below.f k x0 x1 x8).bind fun t255 => (spec_StemFill.l2 k x0 x1 x6 x8 t255 0)) else (some (x6, true))) else (none)
def spec_StemFill.l2 : Nat → List ByteArray → List Int → List ByteArray → Int → List (List Int) → Int → Option (List ByteArray × Bool)
 | 0, _, _, _, _, _, _ => none
 | k + 1, x0, x1, x6, x8, x9, x10 => if x10 < (x0.length : Int) then (if x10 > 0 then (if 0 ≤ x10 then (if x10 < (x1.length : Int) then (if 0 ≤ (rd x1 x10) then (if (rd x1 x10) < (x6.length : Int) then (if 0 ≤ x8 then (if x8 < ((rdOf ByteArray.empty x6 (rd x1 x10)).size : Int) then (if x10 < (x9.length : Int) then ((spec_l7Letter.f k (rd_L3 x9 x10) (((bt (rdOf ByteArray.empty x6 (rd x1 x10)) x8) - 97) % 256)).bind fun t261 => (if x10 < (x6.length : Int) then (if 0 ≤ t261 then (if t261 ≤ (wrap64 (t261 + 1)) then (if (wrap64 (t261 + 1)) ≤ 4 then (if (rdOf ByteArray.empty x6 x10).size + ((⟨#[97, 98, 99, 100]⟩ : ByteArray).extract (t261 : Int).toNat ((wrap64 (t261 + 1)) : Int).toNat).size ≤ 9223372036854775807 then (spec_StemFill.l2 k x0 x1 (x6.set (x10 : Int).toNat ((rdOf ByteArray.empty x6 x10) ++ ((⟨#[97, 98, 99, 100]⟩ : ByteArray).extract (t261 : Int).toNat ((wrap64 (t261 + 1)) : Int).toNat))) x8 x9 (wrap64 (x10 + 1))) else (none)) else (none)) else (none)) else (none)) else (none))) else (none)) else (none)) else (none)) else (none)) else (none)) else (none)) else (none)) else (if 0 ≤ x10 then (if x10 < (x9.length : Int) then ((spec_l7Letter.f k (rd_L3 x9 x10) (-1)).bind fun t265 => (if x10 < (x6.length : Int) then (if 0 ≤ t265 then (if t265 ≤ (wrap64 (t265 + 1)) then (if (wrap64 (t265 + 1)) ≤ 4 then (if (rdOf ByteArray.empty x6 x10).size + ((⟨#[97, 98, 99, 100]⟩ : ByteArray).extract (t265 : Int).toNat ((wrap64 (t265 + 1)) : Int).toNat).size ≤ 9223372036854775807 then (spec_StemFill.l2 k x0 x1 (x6.set (x10 : Int).toNat ((rdOf ByteArray.empty x6 x10) ++ ((⟨#[97, 98, 99, 100]⟩ : ByteArray).extract (t265 : Int).toNat ((wrap64 (t265 + 1)) : Int).toNat))) x8 x9 (wrap64 (x10 + 1))) else (none)) else (none)) else (none)) else (none)) else (none))) else (none)) else (none))) else (spec_StemFill.l1 k x0 x1 x6 (wrap64 (x8 + 1)))
end
def spec_StemFill.f (k : Nat) (l0 : List ByteArray) (l1 : List Int) : Option (List ByteArray × Bool) := (some (([] : List ByteArray) : List ByteArray)).bind fun y247 => ((spec_StemValid.f k l0 l1).bind fun t250 => (if t250 = true then (spec_StemFill.l0 k l0 l1 y247 0) else (some (y247, false))))
def spec_StemFill.T19 : Bool × List (List Nat × List Nat) := (true, [([], []), ([], []), ([], []), ([], []), ([2, 3], [2, 3]), ([4], [4]), ([], []), ([], []), ([7], [7]), ([6, 8], [6, 8]), ([5, 9], [5, 9]), ([0, 1, 0, 1, 2, 3, 4, 5, 6, 7, 8, 9, 10], [0, 1]), ([11, 10, 0, 1, 2, 3, 4, 5, 6, 7, 8, 9, 10], [10, 11])])
def spec_StemFill.B19 : List Nat := [0, 0, 0, 0, 12, 28, 0, 0, 128, 448, 1020, 2047, 4095]
theorem spec_StemFill.tab19 : rtab .any (opsOf Tryd.f6 19) = spec_StemFill.T19 := by kernel_rfl
theorem spec_StemFill.bits19 : waitsOk spec_StemFill.T19.2 spec_StemFill.B19 = true := by kernel_rfl
set_option maxHeartbeats 8000000 in
set_option maxRecDepth 100000 in
theorem spec_StemFill.calls (k : Nat) (A0 : Option Addr) (c0 : Nat) (l0 : List ByteArray) (A1 : Option Addr) (c1 : Nat) (l1 : List Int) (r1 : List ByteArray) (r2 : Bool) (w : World) (hr0 : Kd.C Kd.string w A0 l0.length l0) (hc0 : l0.length ≤ c0) (hr1 : Kd.C (Kd.int .i64) w A1 l1.length l1) (hc1 : l1.length ≤ c1) (h : spec_StemFill.f k l0 l1 = some (r1, r2)) :
  Calls Tryd.prog 6 #[.slice A0 l0.length c0, .slice A1 l1.length c1] w fun e w' => ∃ v0_ : Value, e = .returned (.tuple #[v0_, .bool r2]) ∧ Kd.R Kd.string 9 w' w.heap.size (fun _ => True) v0_ r1 ∧ Below w.heap.size w w' := by
 have HR0 := am hr0
 have HC0 := am hc0
 clear hr0 hc0
 have HR1 := am hr1
 have HC1 := am hc1
 clear hr1 hc1
 have HB := am (Below.refl w.heap.size w)
 have H : ((some (([] : List ByteArray) : List ByteArray)).bind fun y247 => ((spec_StemValid.f k l0 l1).bind fun t250 => (if t250 = true then (spec_StemFill.l0 k l0 l1 y247 0) else (some (y247, false))))) = some (r1, r2) := h
 clear h
 obtain ⟨y247, hy247⟩ : ∃ y_ : List ByteArray, y_ = (([] : List ByteArray)) := ⟨_, rfl⟩
 replace H : ((spec_StemValid.f k l0 l1).bind fun t250 => (if t250 = true then (spec_StemFill.l0 k l0 l1 y247 0) else (some (y247, false)))) = some (r1, r2) := by first | (rw [hy247]; with_reducible exact H) | (have H2_ := (Option.bind_some _ _).symm.trans H; rw [hy247]; with_reducible exact H2_) | (have H2_ := (Option.bind_some _ _).symm.trans H; with_reducible exact H2_) | with_reducible exact H | (rw [hy247]; exact H) | exact H
 have Ny247 := am hy247
 clear hy247
 replace H := Option.bind_eq_some_iff.mp H
 obtain ⟨t250, A30, H⟩ := H
 replace H : (if t250 = true then (spec_StemFill.l0 k l0 l1 y247 0) else (some (y247, false))) = some (r1, r2) := H
 have A3 := am A30
 clear A30
 by_cases c4 : t250 = true
 ·subst c4
  have H1 : (spec_StemFill.l0 k l0 l1 y247 0) = some (r1, r2) := by rw [if_pos rfl] at H; exact H
  clear H
  have H := H1
  clear H1
  have H' := am H
  clear H
  go_enter Tryd.func6, Tryd.ntmps6
  go_wp2_with (first | ((with_reducible refine gate_dst (N := 13) rfl ?_); refine Kd.R_lit Kd.string _ 9 ?hg (N := 13) ?hd (xs := ([] : List ByteArray)) (inner := []) (ok := fun _ => True) (okp := fun _ => True) ?hr ?hp (fun _ hk => hk) trivial (Below.refl _ _) (Nat.le_refl _) (by simp) ?_; (case hd => rfl); (case hg => rfl); (case hr => first | (go_simp; done) | (go_simp; rfl)); (case hp => exact (Reps.none _ _)); intro v248 w5 ho6 hb hg_ hnew_; clear hg_ hnew_; (first | rw [← Ny247.out] at ho6 | (simp only [Int.reduceToNat] at ho6; rw [← Ny247.out] at ho6)); have n0_ := am (Kd.R_lower ho6 (below_size (bu HB.out))); have n1_ := am (below_step (bu HB.out) hb); clear HB; have HO249 := n0_; have HB := n1_; clear n0_ n1_; clear hb ho6) | ((with_reducible refine gate_callee (f := 17) rfl ?_); refine goesL_ (some 16) rfl rfl Tryd.func17 (by kernel_rfl) rfl #[.slice A0 l0.length c0, .slice A1 l1.length c1] rfl (by (try simp only [List.map_toArray, List.map_cons, List.map_nil]); first | done | rfl | (simp only [List.length_drop, List.length_take]; rfl)) ?_; (with_reducible refine (spec_StemValid.calls k _ _ l0 _ _ l1 true _ ?side1 ?side2 ?side3 ?side4 A3.out).mono ?_); (case side1 => repeat (first | exact (Kd.C_below HR0.out HB.out) | (with_reducible refine Kd.C_alloc ?_ _) | (with_reducible refine Kd.C_drewN ?_ _) | (with_reducible refine Kd.C_drew ?_))); (case side2 => exact HC0.out); (case side3 => repeat (first | exact (Kd.C_below HR1.out HB.out) | (with_reducible refine Kd.C_alloc ?_ _) | (with_reducible refine Kd.C_drewN ?_ _) | (with_reducible refine Kd.C_drew ?_))); (case side4 => exact HC1.out); rintro e w' ⟨rfl, ⟨nd, rfl⟩⟩; refine ⟨_, rfl, ?_⟩))
  go_loopg [6, 7] k (fun kq v6 v7 w' => ∃ (x6_1 : List ByteArray) (x7_1 : Int), v7 = .int .i64 x7_1 ∧ Aside0 (spec_StemFill.l0 kq l0 l1 x6_1 x7_1 = some (r1, r2)) ∧ Aside0 (kq ≤ k) ∧ Aside0 (Kd.R Kd.string 9 w' w.heap.size (fun _ => True) v6 x6_1) ∧ Aside0 (Below w.heap.size w w'))
  case atStart => exact ⟨(y247), (0), (by first | rfl | (simp; done) | (simp [*]; done)), H', ⟨Nat.le_refl _⟩, ⟨ru HO249.out⟩, ⟨bu HB.out⟩⟩
  case round =>
   clear H'
   try clear c1
   try clear p2
   try clear c4
   try clear c6
   obtain ⟨x6_1, x7_1, rfl, HA, HK1, HO_6, HB⟩ := hrel
   cases gk with
   | zero => exact absurd HA.out (by simp [spec_StemFill.l0])
   | succ k1 =>
    have H := HA.out
    clear HA
    simp only [spec_StemFill.l0] at H
    by_cases c7 : x7_1 < (l0.length : Int)
    ·rw [if_pos c7] at H
     have c7b0 : decide (x7_1 < (l0.length : Int)) = true := decide_eq_true c7
     clear c7
     by_cases c8 : x6_1.length < 8796093022208
     ·rw [if_pos c8] at H
      have LMc8 := am c8
      clear c8
      obtain ⟨y251, hy251⟩ : ∃ y_ : List ByteArray, y_ = (x6_1 ++ [(⟨#[]⟩ : ByteArray)]) := ⟨_, rfl⟩
      replace H : (spec_StemFill.l0 k1 l0 l1 y251 (wrap64 (x7_1 + 1))) = some (r1, r2) := by first | (rw [hy251]; with_reducible exact H) | (have H2_ := (Option.bind_some _ _).symm.trans H; rw [hy251]; with_reducible exact H2_) | (have H2_ := (Option.bind_some _ _).symm.trans H; with_reducible exact H2_) | with_reducible exact H | (rw [hy251]; exact H) | exact H
      have Ny251 := am hy251
      clear hy251
      have H' := am H
      clear H
      go_wp2_with (first | ((with_reducible refine gate_builtin (b := .append) (xs := #[.tmp 25, .tmp 26]) rfl ?_); at_builtin; refine Kd.R_append Kd.string (w0 := w) w.heap.size rfl (.tmp 25) (.tmp 26) 23 9 (.string ⟨#[]⟩) 16 rfl Tryd.underlying23 info9 rfl (by decide) (by omega) u6 x6_1 (⟨#[]⟩ : ByteArray) [.string (⟨#[]⟩ : ByteArray)] (fun _ => True) (fun _ => False) rfl rfl ?aP (fun _ hk => hk.elim) ?aF ?aO ?aB ?aS ?aL ?_; (case aP => exact rfl); (case aB => exact (bu HB.out)); (case aF => exact (fun _ _ => trivial)); (case aO => exact (ru HO_6.out)); (case aS => exact (below_size (bu HB.out))); (case aL => have := LMc8.out; omega); intro v252 w9 ho hb hg hat; rw [← Ny251.out] at ho; have n0_ := am (hb); have n1_ := am (ho); clear HB; clear HO_6; have HB := n0_; have HO253 := n1_; clear n0_ n1_; clear ho hb hg hat))
      go_roundg k1
      case measure => have := HK1.out; omega
      case rel => exact ⟨(y251), (wrap64 (x7_1 + 1)), (by first | rfl | (simp; done) | (simp [*]; done)), H', ⟨by have := HK1.out; omega⟩, ⟨ru HO253.out⟩, ⟨bu HB.out⟩⟩
     ·rw [if_neg c8] at H
      exact absurd H (by simp)
    ·rw [if_neg c7] at H
     have c7b0 : decide (x7_1 < (l0.length : Int)) = false := decide_eq_false c7
     clear c7
     have H' := am H
     clear H
     go_wp2
     go_loopg [8] k1 (fun kq v8 w' => ∃ (x6_2 : List ByteArray) (x8_2 : Int), v8 = .int .i64 x8_2 ∧ Aside0 (spec_StemFill.l1 kq l0 l1 x6_2 x8_2 = some (r1, r2)) ∧ Aside0 (kq ≤ k1) ∧ Aside0 (Kd.R Kd.string 9 w' w.heap.size (fun _ => True) u6 x6_2) ∧ Aside0 (Below w.heap.size w w'))
     case atStart => exact ⟨(x6_1), (0), (by first | rfl | (simp; done) | (simp [*]; done)), H', ⟨Nat.le_refl _⟩, ⟨ru HO_6.out⟩, ⟨bu HB.out⟩⟩
     case round =>
      clear H'
      try clear c1
      try clear p2
      try clear c4
      try clear c6
      try clear p6
      try clear c7
      try clear c7b0
      try clear c8
      try clear p2
      obtain ⟨x6_2, x8_2, rfl, HA, HK2, HO_6, HB⟩ := hrel
      cases gk with
      | zero => exact absurd HA.out (by simp [spec_StemFill.l1])
      | succ k2 =>
       have H := HA.out
       clear HA
       simp only [spec_StemFill.l1] at H
       by_cases c10 : 0 < (l0.length : Int)
       ·rw [if_pos c10] at H
        have c10b0 : decide (0 < (l0.length : Int)) = true := decide_eq_true c10
        have c10b1 : decide (0 < l0.length) = true := decide_eq_true (by omega)
        clear c10
        by_cases c11 : x8_2 < ((rdOf ByteArray.empty l0 0).size : Int)
        ·rw [if_pos c11] at H
         have c11b0 : decide (x8_2 < ((rdOf ByteArray.empty l0 0).size : Int)) = true := decide_eq_true c11
         clear c11
         replace H := Option.bind_eq_some_iff.mp H
         obtain ⟨t255, A120, H⟩ := H
         replace H : (spec_StemFill.l2 k2 l0 l1 x6_2 x8_2 t255 0) = some (r1, r2) := H
         have A12 := am A120
         clear A120
         have H' := am H
         clear H
         have p254 : 0 ≤ (0 : Int) := (by omega)
         have q254 : 0 < (l0.length : Int) := od
         obtain ⟨ad254, e254, hx254_0⟩ := Kd.at_string HR0.out 0 p254 q254
         cases e254
         have qi254 : (0 < l0.length) = True := eq_true (by omega)
         (try rw [show ((0 : Int)).toNat = 0 from rfl] at hx254_0)
         (try rw [Addr.add_zero'] at hx254_0)
         replace hx254_0 := (HB.out.cell (World.block_lt_of_cell? w _ hx254_0)).trans hx254_0
         replace p254 := eq_true p254
         replace q254 := eq_true q254
         go_wp2_with (first | ((with_reducible refine gate_callee (f := 18) rfl ?_); refine goesL_ (some 39) rfl rfl Tryd.func18 (by kernel_rfl) rfl #[.slice (some ad254) l0.length c0, .slice A1 l1.length c1, .int .i64 x8_2] rfl (by (try simp only [List.map_toArray, List.map_cons, List.map_nil]); first | done | rfl | (simp only [List.length_drop, List.length_take]; rfl)) ?_; (with_reducible refine (spec_l7Below.calls k2 _ _ l0 _ _ l1 x8_2 t255 _ ?side1 ?side2 ?side3 ?side4 A12.out).mono ?_); (case side1 => repeat (first | exact (Kd.C_below HR0.out HB.out) | (with_reducible refine Kd.C_alloc ?_ _) | (with_reducible refine Kd.C_drewN ?_ _) | (with_reducible refine Kd.C_drew ?_))); (case side2 => exact HC0.out); (case side3 => repeat (first | exact (Kd.C_below HR1.out HB.out) | (with_reducible refine Kd.C_alloc ?_ _) | (with_reducible refine Kd.C_drewN ?_ _) | (with_reducible refine Kd.C_drew ?_))); (case side4 => exact HC1.out); rintro e w13 ⟨v256, rfl, ho0, hb⟩; refine ⟨_, rfl, ?_⟩; have n0_ := am (Kd.R_below (ru HO_6.out) hb); have n1_ := am (Kd.S_lower ho0 (below_size (bu HB.out))); have n2_ := am (below_step (bu HB.out) hb); clear HO_6; clear HB; have HO_6 := n0_; have HO257 := n1_; have HB := n2_; clear n0_ n1_ n2_; (try clear hb); (try clear hb2); (try clear hk); (try clear hi); (try clear ho0)))
         go_loopg [10] k2 (fun kq v10 w' => ∃ (x6_3 : List ByteArray) (x10_3 : Int), v10 = .int .i64 x10_3 ∧ Aside0 (spec_StemFill.l2 kq l0 l1 x6_3 x8_2 t255 x10_3 = some (r1, r2)) ∧ Aside0 (kq ≤ k2) ∧ Aside0 (Kd.R Kd.string 9 w' w.heap.size (fun _ => True) u6 x6_3) ∧ Aside0 (Kd.S (Kd.slice 3 (Kd.int .i64)) 24 w' w.heap.size (fun _ => True) v256 t255) ∧ Aside0 (Below w.heap.size w w'))
         case atStart => exact ⟨(x6_2), (0), (by first | rfl | (simp; done) | (simp [*]; done)), H', ⟨Nat.le_refl _⟩, ⟨ru HO_6.out⟩, ⟨by (with_reducible repeat (first | apply Kd.S_alloc | apply Kd.S_drewN | apply Kd.S_drew)); exact HO257.out⟩, ⟨bu HB.out⟩⟩
         case round =>
          clear H'
          try clear c1
          try clear p2
          try clear q2
          try clear hx2
          try clear qi2
          try clear c4
          try clear c6
          try clear p6
          try clear c7
          try clear c7b0
          try clear c8
          try clear c10
          try clear c10b0
          try clear c10b1
          try clear c11
          try clear c11b0
          try clear hx254_0
          try clear p2
          try clear p254
          try clear p6
          try clear q254
          obtain ⟨x6_3, x10_3, rfl, HA, HK3, HO_6, HO_9, HB⟩ := hrel
          cases gk with
          | zero => exact absurd HA.out (by simp [spec_StemFill.l2])
          | succ k3 =>
           have H := HA.out
           clear HA
           simp only [spec_StemFill.l2] at H
           by_cases c14 : x10_3 < (l0.length : Int)
           ·rw [if_pos c14] at H
            have c14b0 : decide (x10_3 < (l0.length : Int)) = true := decide_eq_true c14
            clear c14
            by_cases c15 : x10_3 > 0
            ·rw [if_pos c15] at H
             have c15b0 : decide (0 < x10_3) = true := decide_eq_true c15
             clear c15
             by_cases c16 : 0 ≤ x10_3
             ·rw [if_pos c16] at H
              have c16b0 : decide (0 ≤ x10_3) = true := decide_eq_true c16
              clear c16
              by_cases c17 : x10_3 < (l1.length : Int)
              ·rw [if_pos c17] at H
               have c17b0 : decide (x10_3 < (l1.length : Int)) = true := decide_eq_true c17
               clear c17
               by_cases c18 : 0 ≤ (rd l1 x10_3)
               ·rw [if_pos c18] at H
                have c18b0 : decide (0 ≤ (rd l1 x10_3)) = true := decide_eq_true c18
                clear c18
                by_cases c19 : (rd l1 x10_3) < (x6_3.length : Int)
                ·rw [if_pos c19] at H
                 have c19b0 : decide ((rd l1 x10_3) < (x6_3.length : Int)) = true := decide_eq_true c19
                 clear c19
                 by_cases c20 : 0 ≤ x8_2
                 ·rw [if_pos c20] at H
                  have c20b0 : decide (0 ≤ x8_2) = true := decide_eq_true c20
                  clear c20
                  by_cases c21 : x8_2 < ((rdOf ByteArray.empty x6_3 (rd l1 x10_3)).size : Int)
                  ·rw [if_pos c21] at H
                   have c21b0 : decide (x8_2 < ((rdOf ByteArray.empty x6_3 (rd l1 x10_3)).size : Int)) = true := decide_eq_true c21
                   clear c21
                   by_cases c23 : x10_3 < (t255.length : Int)
                   ·rw [if_pos c23] at H
                    have c23b0 : decide (x10_3 < (t255.length : Int)) = true := decide_eq_true c23
                    clear c23
                    replace H := Option.bind_eq_some_iff.mp H
                    obtain ⟨t261, A240, H⟩ := H
                    replace H : (if x10_3 < (x6_3.length : Int) then (if 0 ≤ t261 then (if t261 ≤ (wrap64 (t261 + 1)) then (if (wrap64 (t261 + 1)) ≤ 4 then (if (rdOf ByteArray.empty x6_3 x10_3).size + ((⟨#[97, 98, 99, 100]⟩ : ByteArray).extract (t261 : Int).toNat ((wrap64 (t261 + 1)) : Int).toNat).size ≤ 9223372036854775807 then (spec_StemFill.l2 k3 l0 l1 (x6_3.set (x10_3 : Int).toNat ((rdOf ByteArray.empty x6_3 x10_3) ++ ((⟨#[97, 98, 99, 100]⟩ : ByteArray).extract (t261 : Int).toNat ((wrap64 (t261 + 1)) : Int).toNat))) x8_2 t255 (wrap64 (x10_3 + 1))) else (none)) else (none)) else (none)) else (none)) else (none)) = some (r1, r2) := H
                    have A24 := am A240
                    clear A240
                    by_cases c25 : x10_3 < (x6_3.length : Int)
                    ·rw [if_pos c25] at H
                     have c25b0 : decide (x10_3 < (x6_3.length : Int)) = true := decide_eq_true c25
                     clear c25
                     by_cases c26 : 0 ≤ t261
                     ·rw [if_pos c26] at H
                      have c26b0 := eq_true c26
                      have c26b1 : decide (0 ≤ t261) = true := decide_eq_true c26
                      clear c26
                      by_cases c27 : t261 ≤ (wrap64 (t261 + 1))
                      ·rw [if_pos c27] at H
                       have c27b0 := eq_true c27
                       have c27b1 : decide (t261 ≤ (wrap64 (t261 + 1))) = true := decide_eq_true c27
                       by_cases c28 : (wrap64 (t261 + 1)) ≤ 4
                       ·rw [if_pos c28] at H
                        have c28b0 := eq_true c28
                        have c28b1 : decide ((wrap64 (t261 + 1)) ≤ 4) = true := decide_eq_true c28
                        by_cases c29 : (rdOf ByteArray.empty x6_3 x10_3).size + ((⟨#[97, 98, 99, 100]⟩ : ByteArray).extract (t261 : Int).toNat ((wrap64 (t261 + 1)) : Int).toNat).size ≤ 9223372036854775807
                        ·rw [if_pos c29] at H
                         have c29b0 := eq_true c29
                         have c29b1 : decide ((rdOf ByteArray.empty x6_3 x10_3).size + ((⟨#[97, 98, 99, 100]⟩ : ByteArray).extract (t261 : Int).toNat ((wrap64 (t261 + 1)) : Int).toNat).size ≤ 9223372036854775807) = true := decide_eq_true c29
                         try have c29b2 : (9223372036854775807 < (rdOf ByteArray.empty x6_3 x10_3).size + ((⟨#[97, 98, 99, 100]⟩ : ByteArray).extract (t261 : Int).toNat ((wrap64 (t261 + 1)) : Int).toNat).size) = False := eq_false (Nat.not_lt.2 c29)
                         try have c29b5 : (9223372036854775807 < (rdOf ByteArray.empty x6_3 x10_3).size + ((wrap64 (t261 + 1)).toNat - t261.toNat)) = False := eq_false (by have h_ := c29; have h2_ : (⟨#[97, 98, 99, 100]⟩ : ByteArray).size = 4 := rfl; simp only [ByteArray.size_extract, h2_] at h_; omega)
                         try have c29b72 : (9223372036854775807 < (rdOf ByteArray.empty x6_3 x10_3).size + ((wrap64 (t261 + 1)).toNat - t261.toNat)) = False := eq_false (by have h_ := c29; have h3_ : (⟨#[97, 98, 99, 100]⟩ : ByteArray).size = 4 := rfl; simp only [ByteArray.size_append, ByteArray.size_extract, h3_] at h_; (try have := of_eq_true c26b0); (try have := of_eq_true c27b0); (try have := of_eq_true c28b0); (try have := of_eq_true c29b0); omega)
                         obtain ⟨y263, hy263⟩ : ∃ y_ : List ByteArray, y_ = (x6_3.set (x10_3 : Int).toNat ((rdOf ByteArray.empty x6_3 x10_3) ++ ((⟨#[97, 98, 99, 100]⟩ : ByteArray).extract (t261 : Int).toNat ((wrap64 (t261 + 1)) : Int).toNat))) := ⟨_, rfl⟩
                         replace H : (spec_StemFill.l2 k3 l0 l1 y263 x8_2 t255 (wrap64 (x10_3 + 1))) = some (r1, r2) := by first | (rw [hy263]; with_reducible exact H) | (have H2_ := (Option.bind_some _ _).symm.trans H; rw [hy263]; with_reducible exact H2_) | (have H2_ := (Option.bind_some _ _).symm.trans H; with_reducible exact H2_) | with_reducible exact H | (rw [hy263]; exact H) | exact H
                         have Ny263 := am hy263
                         clear hy263
                         have H' := am H
                         clear H
                         have p258 : 0 ≤ (x10_3 : Int) := od
                         have q258 : x10_3 < (l1.length : Int) := od
                         obtain ⟨ad258, e258, hx258_0⟩ := Kd.at_int HR1.out x10_3 p258 q258
                         cases e258
                         replace hx258_0 := (HB.out.cell (World.block_lt_of_cell? w _ hx258_0)).trans hx258_0
                         replace p258 := eq_true p258
                         replace q258 := eq_true q258
                         obtain ⟨Ao31, co31, eo31⟩ := Kd.R_slice HO_6.out
                         subst eo31
                         have p259 : 0 ≤ ((rd l1 x10_3) : Int) := od
                         have q259 : (rd l1 x10_3) < (x6_3.length : Int) := od
                         obtain ⟨ad259, e259, hx259_0⟩ := Kd.at_string (Kd.R_reads' HO_6.out).2.2 (rd l1 x10_3) p259 q259
                         cases e259
                         replace p259 := eq_true p259
                         replace q259 := eq_true q259
                         have p22 : 0 ≤ (x8_2 : Int) := od
                         have q22 : x8_2 < ((rdOf ByteArray.empty x6_3 (rd l1 x10_3)).size : Int) := od
                         have hx22 := bt_at (rdOf ByteArray.empty x6_3 (rd l1 x10_3)) x8_2
                         replace p22 := eq_true p22
                         replace q22 := eq_true q22
                         obtain ⟨Ao32, co32, eo32⟩ := Kd.S_slice HO_9.out
                         subst eo32
                         have p260 : 0 ≤ (x10_3 : Int) := od
                         have q260 : x10_3 < (t255.length : Int) := od
                         obtain ⟨ad260, A260_0, c260_0, e260, hx260_0, hl260_0, hi260_0⟩ := at_L3 (Kd.S_reads' HO_9.out).2.2 x10_3 p260 q260
                         cases e260
                         obtain ⟨ce260, hce260, hMe260, hcc260⟩ := Kd.S_get HO_9.out [] x10_3 p260 (by first | exact q260 | exact od | (have e_ := (Kd.S_reads' HO_9.out).1; omega))
                         obtain ⟨ve260_0, rfl, ge260_0⟩ := hMe260
                         have hv260_0 := hcc260 0 _ rfl
                         rw [Nat.add_zero, show ((Kd.slice 3 (Kd.int .i64))).sz = 1 from rfl, Nat.mul_one] at hv260_0
                         replace hv260_0 := Option.some.inj (hv260_0.symm.trans hx260_0)
                         rw [hv260_0] at ge260_0
                         have HL260_0 := am (show Kd.R (Kd.int .i64) 3 _ _ _ _ (rd_L3 t255 x10_3) from ge260_0)
                         clear hv260_0 ge260_0
                         clear hcc260 hce260
                         have HR260_0 := am hi260_0
                         have HC260_0 := am hl260_0
                         clear hi260_0 hl260_0
                         replace p260 := eq_true p260
                         replace q260 := eq_true q260
                         try go_wp2_with (first | ((with_reducible refine gate_callee (f := 19) rfl ?_); refine goesL_ (some 64) rfl rfl Tryd.func19 (by kernel_rfl) rfl #[.slice A260_0 (rd_L3 t255 x10_3).length c260_0, .int .i64 (((bt (rdOf ByteArray.empty x6_3 (rd l1 x10_3)) x8_2) - 97) % 256)] rfl (by (try simp only [List.map_toArray, List.map_cons, List.map_nil]); first | done | rfl | (simp only [List.length_drop, List.length_take]; rfl)) ?_; (with_reducible refine (spec_l7Letter.calls k3 _ _ (rd_L3 t255 x10_3) (((bt (rdOf ByteArray.empty x6_3 (rd l1 x10_3)) x8_2) - 97) % 256) t261 _ ?side1 ?side2 A24.out).mono ?_); (case side1 => repeat (first | exact (by repeat (first | (with_reducible exact HR260_0.out) | (with_reducible refine Kd.C_alloc ?_ _) | (with_reducible refine Kd.C_drewN ?_ _) | (with_reducible refine Kd.C_drew ?_) | exact HR260_0.out)) | (with_reducible refine Kd.C_alloc ?_ _) | (with_reducible refine Kd.C_drewN ?_ _) | (with_reducible refine Kd.C_drew ?_))); (case side2 => exact HC260_0.out); rintro e w' ⟨rfl, ⟨nd, rfl⟩⟩; refine ⟨_, rfl, ?_⟩; (try (rw [drewN_self wr]; generalize hq_ : World.drewN wr _ = wr; have n0_ : Aside0 (Kd.R (Kd.int .i64) 3 wr w.heap.size (fun k_ => some k_ ≠ (.slice (some ad260) t255.length co32 : Value).ownBlock) (.slice A260_0 (rd_L3 t255 x10_3).length c260_0) (rd_L3 t255 x10_3)) := ⟨by rw [← hq_]; exact (by (with_reducible repeat (first | apply Kd.R_alloc | apply Kd.R_drewN | apply Kd.R_drew)); exact Kd.R_mono HL260_0.out (fun _ hk => hk.2))⟩; have n1_ : Aside0 (Kd.R Kd.string 9 wr w.heap.size (fun _ => True) (.slice (some ad259) x6_3.length co31) x6_3) := ⟨by rw [← hq_]; exact (ru HO_6.out)⟩; have n2_ : Aside0 (Kd.S (Kd.slice 3 (Kd.int .i64)) 24 wr w.heap.size (fun _ => True) (.slice (some ad260) t255.length co32) t255) := ⟨by rw [← hq_]; exact (by (with_reducible repeat (first | apply Kd.S_alloc | apply Kd.S_drewN | apply Kd.S_drew)); exact HO_9.out)⟩; have n3_ : Aside0 (Below w.heap.size w wr) := ⟨by rw [← hq_]; exact (bu HB.out)⟩; have n4_ : Aside0 (Kd.C (Kd.int .i64) wr A260_0 (rd_L3 t255 x10_3).length (rd_L3 t255 x10_3)) := ⟨by rw [← hq_]; exact (by repeat (first | (with_reducible exact HR260_0.out) | (with_reducible refine Kd.C_alloc ?_ _) | (with_reducible refine Kd.C_drewN ?_ _) | (with_reducible refine Kd.C_drew ?_) | exact HR260_0.out))⟩; clear HL260_0 HO_6 HO_9 HB HR260_0 hq_; have HL260_0 := n0_; have HO_6 := n1_; have HO_9 := n2_; have HB := n3_; have HR260_0 := n4_; clear n0_ n1_ n2_ n3_ n4_))))
                         have n0_ := am (Kd.R_drew HO_6.out)
                         have n1_ := am (Kd.S_drew HO_9.out)
                         have n2_ := am (Kd.R_drew HL260_0.out)
                         have n3_ := am (Kd.C_drew HR260_0.out)
                         have n4_ := am (below_drew1 HB.out)
                         clear HO_6
                         clear HO_9
                         clear HL260_0
                         clear HR260_0
                         clear HB
                         have HO_6 := n0_
                         have HO_9 := n1_
                         have HL260_0 := n2_
                         have HR260_0 := n3_
                         have HB := n4_
                         clear n0_ n1_ n2_ n3_ n4_
                         have p262 : 0 ≤ (x10_3 : Int) := od
                         have q262 : x10_3 < (x6_3.length : Int) := od
                         obtain ⟨ad262, e262, hx262_0⟩ := Kd.at_string (Kd.R_reads' HO_6.out).2.2 x10_3 p262 q262
                         obtain rfl : ad259 = ad262 := (by injection e262)
                         replace p262 := eq_true p262
                         replace q262 := eq_true q262
                         have p30 : 0 ≤ (x10_3 : Int) := od
                         have q30 : (x10_3 : Int) < ((x6_3.length : Int) : Int) := od
                         obtain ⟨go30, co30, eo30, gb30, gl30, cl30, HG30⟩ := Kd.R_form HO_6.out (by omega)
                         (first | cases eo30 | (injection eo30 with ea_ en_ ec_; (first | subst ea_ | (injection ea_ with ea_; subst ea_)); subst ec_; clear en_))
                         have GB30 := am gb30
                         have GG30 := am HG30
                         clear gb30 gl30 HG30
                         (first | simp only [add_plain] at hx259_0 | skip)
                         (first | simp only [add_plain] at hx262_0 | skip)
                         obtain ⟨hx30_0, hf30_0⟩ := Kd.R_celln (⟨#[]⟩ : ByteArray) HO_6.out (x10_3 : Int) p30 q30
                         replace p30 := eq_true p30
                         replace q30 := eq_true q30
                         have HP34 := Kd.R_putn HO_6.out (x10_3 : Int) ((rdOf ByteArray.empty x6_3 x10_3) ++ ((⟨#[97, 98, 99, 100]⟩ : ByteArray).extract (t261 : Int).toNat ((wrap64 (t261 + 1)) : Int).toNat))
                         rw [← Ny263.out] at HP34
                         have HQ34 := am HP34
                         clear HP34
                         refine start_ (n := 13) (S := fun w' => w'.cell? ⟨go30, (x10_3).toNat, none⟩ = some (.string (rdOf ByteArray.empty x6_3 x10_3))) (ds := [12]) #[F,F,F,F,F,F,F,F,F,F,F,F,F] (by kernel_rfl) rfl rfl (hx262_0) (fun hHeld => ?_); refine with_tabW spec_StemFill.tab19 spec_StemFill.bits19 (fun HT_ HW_ => ?_)
                         generalize wr.drew = w33 at HO_6 HO_9 HL260_0 HR260_0 HB GG30 HQ34 hf30_0 hx259_0 hx262_0 hx30_0 hHeld ⊢
                         refine pz 0 (some 65) #[T,F,F,F,F,F,F,F,F,F,F,F,F] (any_of HT_.out (by kernel_rfl)) (h := ?_)
                         refine pz 1 (some 66) #[T,T,F,F,F,F,F,F,F,F,F,F,F] (any_of HT_.out (by kernel_rfl)) (h := ?_)
                         refine pz 2 (some 67) #[T,T,T,F,F,F,F,F,F,F,F,F,F] (any_of HT_.out (by kernel_rfl)) (h := ?_)
                         refine pz 3 (some 68) #[T,T,T,T,F,F,F,F,F,F,F,F,F] (any_of HT_.out (by kernel_rfl)) (h := ?_)
                         refine pz 4 (some 69) #[T,T,T,T,T,F,F,F,F,F,F,F,F] (any_of HT_.out (by kernel_rfl)) (h := ?_)
                         refine pz 6 (some 71) #[T,T,T,T,T,F,T,F,F,F,F,F,F] (any_of HT_.out (by kernel_rfl)) (h := ?_)
                         refine pz 7 (some 72) #[T,T,T,T,T,F,T,T,F,F,F,F,F] (any_of HT_.out (by kernel_rfl)) (h := ?_)
                         refine pz 8 (some 73) #[T,T,T,T,T,F,T,T,T,F,F,F,F] (any_of HT_.out (by kernel_rfl)) (h := ?_)
                         refine pz 9 (some 74) #[T,T,T,T,T,F,T,T,T,T,F,F,F] (any_of HT_.out (by kernel_rfl)) (h := ?_)
                         refine take_ (i := 5) (N := some 70) (v := ?_) (a' := ?_) #[T,T,T,T,T,T,T,T,T,T,F,F,F] rfl rfl (take_ofW HT_.out HW_.out (by kernel_rfl)) (fun _ _ _ h => h) (Or.inl ⟨by rfl, ?_⟩) hHeld ?_ ?_
                         rotate_left
                         ·intro w' s0
                          go_simp
                          with_reducible rfl
                         rotate_left
                         ·simp only [Act.put, sA, sZ, sS, i64_w, i32_w]
                          rfl
                         refine pz 10 (some 75) #[T,T,T,T,T,T,T,T,T,T,T,F,F] (any_of HT_.out (by kernel_rfl)) (h := ?_)
                         refine pz 11 (some 76) #[T,T,T,T,T,T,T,T,T,T,T,T,F] (any_of HT_.out (by kernel_rfl)) (h := ?_)
                         refine last_ (i := 12) (N := none) #[T,T,T,T,T,T,T,T,T,T,T,T,T] rfl rfl (one_of HT_.out (by kernel_rfl)) (by decide) (fun K hK => ?_)
                         refine skip_ (w1 := ?_) (by rfl) rfl ?_ ?_
                         rotate_left
                         ·go_simp
                          rfl
                         refine hK.out _ _ ?_
                         clear hK K
                         refine done_ (done_of HT_.out (by kernel_rfl)) ?_
                         try go_wp2
                         go_roundg k3
                         case measure => have := HK1.out; have := HK2.out; have := HK3.out; omega
                         case rel => exact ⟨(y263), (wrap64 (x10_3 + 1)), (by first | rfl | (simp; done) | (simp [*]; done)), H', ⟨by have := HK1.out; have := HK2.out; have := HK3.out; omega⟩, ⟨ru HQ34.out⟩, ⟨by (with_reducible repeat (first | apply Kd.S_alloc | apply Kd.S_drewN | apply Kd.S_drew)); exact Kd.S_mono (Kd.S_far (p := ⟨go30, (x10_3 : Int).toNat, none⟩) (Kd.S_types HO_9.out GG30.out (by decide)) (fun _ hk => hk.2) (.string ((rdOf ByteArray.empty x6_3 x10_3) ++ ((⟨#[97, 98, 99, 100]⟩ : ByteArray).extract (t261 : Int).toNat ((wrap64 (t261 + 1)) : Int).toNat)))) (fun _ hk => trivial)⟩, ⟨by repeat (first | (with_reducible first | exact HB.out | apply below_alloc | apply pw_below_drewN | apply below_drew1 | refine below_set ?_ GB30.out) | exact HB.out)⟩⟩
                        ·rw [if_neg c29] at H
                         exact absurd H (by simp)
                       ·rw [if_neg c28] at H
                        exact absurd H (by simp)
                      ·rw [if_neg c27] at H
                       exact absurd H (by simp)
                     ·rw [if_neg c26] at H
                      exact absurd H (by simp)
                    ·rw [if_neg c25] at H
                     exact absurd H (by simp)
                   ·rw [if_neg c23] at H
                    exact absurd H (by simp)
                  ·rw [if_neg c21] at H
                   exact absurd H (by simp)
                 ·rw [if_neg c20] at H
                  exact absurd H (by simp)
                ·rw [if_neg c19] at H
                 exact absurd H (by simp)
               ·rw [if_neg c18] at H
                exact absurd H (by simp)
              ·rw [if_neg c17] at H
               exact absurd H (by simp)
             ·rw [if_neg c16] at H
              exact absurd H (by simp)
            ·rw [if_neg c15] at H
             have c15b0 : decide (0 < x10_3) = false := decide_eq_false c15
             clear c15
             by_cases c35 : 0 ≤ x10_3
             ·rw [if_pos c35] at H
              have c35b0 : decide (0 ≤ x10_3) = true := decide_eq_true c35
              clear c35
              by_cases c36 : x10_3 < (t255.length : Int)
              ·rw [if_pos c36] at H
               have c36b0 : decide (x10_3 < (t255.length : Int)) = true := decide_eq_true c36
               clear c36
               replace H := Option.bind_eq_some_iff.mp H
               obtain ⟨t265, A370, H⟩ := H
               replace H : (if x10_3 < (x6_3.length : Int) then (if 0 ≤ t265 then (if t265 ≤ (wrap64 (t265 + 1)) then (if (wrap64 (t265 + 1)) ≤ 4 then (if (rdOf ByteArray.empty x6_3 x10_3).size + ((⟨#[97, 98, 99, 100]⟩ : ByteArray).extract (t265 : Int).toNat ((wrap64 (t265 + 1)) : Int).toNat).size ≤ 9223372036854775807 then (spec_StemFill.l2 k3 l0 l1 (x6_3.set (x10_3 : Int).toNat ((rdOf ByteArray.empty x6_3 x10_3) ++ ((⟨#[97, 98, 99, 100]⟩ : ByteArray).extract (t265 : Int).toNat ((wrap64 (t265 + 1)) : Int).toNat))) x8_2 t255 (wrap64 (x10_3 + 1))) else (none)) else (none)) else (none)) else (none)) else (none)) = some (r1, r2) := H
               have A37 := am A370
               clear A370
               by_cases c38 : x10_3 < (x6_3.length : Int)
               ·rw [if_pos c38] at H
                have c38b0 : decide (x10_3 < (x6_3.length : Int)) = true := decide_eq_true c38
                clear c38
                by_cases c39 : 0 ≤ t265
                ·rw [if_pos c39] at H
                 have c39b0 := eq_true c39
                 have c39b1 : decide (0 ≤ t265) = true := decide_eq_true c39
                 clear c39
                 by_cases c40 : t265 ≤ (wrap64 (t265 + 1))
                 ·rw [if_pos c40] at H
                  have c40b0 := eq_true c40
                  have c40b1 : decide (t265 ≤ (wrap64 (t265 + 1))) = true := decide_eq_true c40
                  by_cases c41 : (wrap64 (t265 + 1)) ≤ 4
                  ·rw [if_pos c41] at H
                   have c41b0 := eq_true c41
                   have c41b1 : decide ((wrap64 (t265 + 1)) ≤ 4) = true := decide_eq_true c41
                   by_cases c42 : (rdOf ByteArray.empty x6_3 x10_3).size + ((⟨#[97, 98, 99, 100]⟩ : ByteArray).extract (t265 : Int).toNat ((wrap64 (t265 + 1)) : Int).toNat).size ≤ 9223372036854775807
                   ·rw [if_pos c42] at H
                    have c42b0 := eq_true c42
                    have c42b1 : decide ((rdOf ByteArray.empty x6_3 x10_3).size + ((⟨#[97, 98, 99, 100]⟩ : ByteArray).extract (t265 : Int).toNat ((wrap64 (t265 + 1)) : Int).toNat).size ≤ 9223372036854775807) = true := decide_eq_true c42
                    try have c42b2 : (9223372036854775807 < (rdOf ByteArray.empty x6_3 x10_3).size + ((⟨#[97, 98, 99, 100]⟩ : ByteArray).extract (t265 : Int).toNat ((wrap64 (t265 + 1)) : Int).toNat).size) = False := eq_false (Nat.not_lt.2 c42)
                    try have c42b5 : (9223372036854775807 < (rdOf ByteArray.empty x6_3 x10_3).size + ((wrap64 (t265 + 1)).toNat - t265.toNat)) = False := eq_false (by have h_ := c42; have h2_ : (⟨#[97, 98, 99, 100]⟩ : ByteArray).size = 4 := rfl; simp only [ByteArray.size_extract, h2_] at h_; omega)
                    try have c42b72 : (9223372036854775807 < (rdOf ByteArray.empty x6_3 x10_3).size + ((wrap64 (t265 + 1)).toNat - t265.toNat)) = False := eq_false (by have h_ := c42; have h3_ : (⟨#[97, 98, 99, 100]⟩ : ByteArray).size = 4 := rfl; simp only [ByteArray.size_append, ByteArray.size_extract, h3_] at h_; (try have := of_eq_true c26b0); (try have := of_eq_true c27b0); (try have := of_eq_true c28b0); (try have := of_eq_true c29b0); (try have := of_eq_true c39b0); (try have := of_eq_true c40b0); (try have := of_eq_true c41b0); (try have := of_eq_true c42b0); omega)
                    obtain ⟨y267, hy267⟩ : ∃ y_ : List ByteArray, y_ = (x6_3.set (x10_3 : Int).toNat ((rdOf ByteArray.empty x6_3 x10_3) ++ ((⟨#[97, 98, 99, 100]⟩ : ByteArray).extract (t265 : Int).toNat ((wrap64 (t265 + 1)) : Int).toNat))) := ⟨_, rfl⟩
                    replace H : (spec_StemFill.l2 k3 l0 l1 y267 x8_2 t255 (wrap64 (x10_3 + 1))) = some (r1, r2) := by first | (rw [hy267]; with_reducible exact H) | (have H2_ := (Option.bind_some _ _).symm.trans H; rw [hy267]; with_reducible exact H2_) | (have H2_ := (Option.bind_some _ _).symm.trans H; with_reducible exact H2_) | with_reducible exact H | (rw [hy267]; exact H) | exact H
                    have Ny267 := am hy267
                    clear hy267
                    have H' := am H
                    clear H
                    obtain ⟨Ao44, co44, eo44⟩ := Kd.S_slice HO_9.out
                    subst eo44
                    have p264 : 0 ≤ (x10_3 : Int) := od
                    have q264 : x10_3 < (t255.length : Int) := od
                    obtain ⟨ad264, A264_0, c264_0, e264, hx264_0, hl264_0, hi264_0⟩ := at_L3 (Kd.S_reads' HO_9.out).2.2 x10_3 p264 q264
                    cases e264
                    obtain ⟨ce264, hce264, hMe264, hcc264⟩ := Kd.S_get HO_9.out [] x10_3 p264 (by first | exact q264 | exact od | (have e_ := (Kd.S_reads' HO_9.out).1; omega))
                    obtain ⟨ve264_0, rfl, ge264_0⟩ := hMe264
                    have hv264_0 := hcc264 0 _ rfl
                    rw [Nat.add_zero, show ((Kd.slice 3 (Kd.int .i64))).sz = 1 from rfl, Nat.mul_one] at hv264_0
                    replace hv264_0 := Option.some.inj (hv264_0.symm.trans hx264_0)
                    rw [hv264_0] at ge264_0
                    have HL264_0 := am (show Kd.R (Kd.int .i64) 3 _ _ _ _ (rd_L3 t255 x10_3) from ge264_0)
                    clear hv264_0 ge264_0
                    clear hcc264 hce264
                    have HR264_0 := am hi264_0
                    have HC264_0 := am hl264_0
                    clear hi264_0 hl264_0
                    replace p264 := eq_true p264
                    replace q264 := eq_true q264
                    try go_wp2_with (first | ((with_reducible refine gate_callee (f := 19) rfl ?_); refine goesL_ (some 64) rfl rfl Tryd.func19 (by kernel_rfl) rfl #[.slice A264_0 (rd_L3 t255 x10_3).length c264_0, .int .i64 (-1)] rfl (by (try simp only [List.map_toArray, List.map_cons, List.map_nil]); first | done | rfl | (simp only [List.length_drop, List.length_take]; rfl)) ?_; (with_reducible refine (spec_l7Letter.calls k3 _ _ (rd_L3 t255 x10_3) (-1) t265 _ ?side1 ?side2 A37.out).mono ?_); (case side1 => repeat (first | exact (by repeat (first | (with_reducible exact HR264_0.out) | (with_reducible refine Kd.C_alloc ?_ _) | (with_reducible refine Kd.C_drewN ?_ _) | (with_reducible refine Kd.C_drew ?_) | exact HR264_0.out)) | (with_reducible refine Kd.C_alloc ?_ _) | (with_reducible refine Kd.C_drewN ?_ _) | (with_reducible refine Kd.C_drew ?_))); (case side2 => exact HC264_0.out); rintro e w' ⟨rfl, ⟨nd, rfl⟩⟩; refine ⟨_, rfl, ?_⟩; (try (rw [drewN_self wr]; generalize hq_ : World.drewN wr _ = wr; have n0_ : Aside0 (Kd.R (Kd.int .i64) 3 wr w.heap.size (fun k_ => some k_ ≠ (.slice (some ad264) t255.length co44 : Value).ownBlock) (.slice A264_0 (rd_L3 t255 x10_3).length c264_0) (rd_L3 t255 x10_3)) := ⟨by rw [← hq_]; exact (by (with_reducible repeat (first | apply Kd.R_alloc | apply Kd.R_drewN | apply Kd.R_drew)); exact Kd.R_mono HL264_0.out (fun _ hk => hk.2))⟩; have n1_ : Aside0 (Kd.R Kd.string 9 wr w.heap.size (fun _ => True) u6 x6_3) := ⟨by rw [← hq_]; exact (ru HO_6.out)⟩; have n2_ : Aside0 (Kd.S (Kd.slice 3 (Kd.int .i64)) 24 wr w.heap.size (fun _ => True) (.slice (some ad264) t255.length co44) t255) := ⟨by rw [← hq_]; exact (by (with_reducible repeat (first | apply Kd.S_alloc | apply Kd.S_drewN | apply Kd.S_drew)); exact HO_9.out)⟩; have n3_ : Aside0 (Below w.heap.size w wr) := ⟨by rw [← hq_]; exact (bu HB.out)⟩; have n4_ : Aside0 (Kd.C (Kd.int .i64) wr A264_0 (rd_L3 t255 x10_3).length (rd_L3 t255 x10_3)) := ⟨by rw [← hq_]; exact (by repeat (first | (with_reducible exact HR264_0.out) | (with_reducible refine Kd.C_alloc ?_ _) | (with_reducible refine Kd.C_drewN ?_ _) | (with_reducible refine Kd.C_drew ?_) | exact HR264_0.out))⟩; clear HL264_0 HO_6 HO_9 HB HR264_0 hq_; have HL264_0 := n0_; have HO_6 := n1_; have HO_9 := n2_; have HB := n3_; have HR264_0 := n4_; clear n0_ n1_ n2_ n3_ n4_))))
                    have n0_ := am (Kd.R_drew HO_6.out)
                    have n1_ := am (Kd.S_drew HO_9.out)
                    have n2_ := am (Kd.R_drew HL264_0.out)
                    have n3_ := am (Kd.C_drew HR264_0.out)
                    have n4_ := am (below_drew1 HB.out)
                    clear HO_6
                    clear HO_9
                    clear HL264_0
                    clear HR264_0
                    clear HB
                    have HO_6 := n0_
                    have HO_9 := n1_
                    have HL264_0 := n2_
                    have HR264_0 := n3_
                    have HB := n4_
                    clear n0_ n1_ n2_ n3_ n4_
                    obtain ⟨Ao46, co46, eo46⟩ := Kd.R_slice HO_6.out
                    (first | subst eo46 | (injection eo46 with f1_ f2_ f3_; have f4_ := f1_.symm; have f5_ := f3_.symm; clear f1_ f2_ f3_; subst f4_; subst f5_))
                    have p266 : 0 ≤ (x10_3 : Int) := od
                    have q266 : x10_3 < (x6_3.length : Int) := od
                    obtain ⟨ad266, e266, hx266_0⟩ := Kd.at_string (Kd.R_reads' HO_6.out).2.2 x10_3 p266 q266
                    cases e266
                    replace p266 := eq_true p266
                    replace q266 := eq_true q266
                    have p43 : 0 ≤ (x10_3 : Int) := od
                    have q43 : (x10_3 : Int) < ((x6_3.length : Int) : Int) := od
                    obtain ⟨go43, co43, eo43, gb43, gl43, cl43, HG43⟩ := Kd.R_form HO_6.out (by omega)
                    (first | cases eo43 | (injection eo43 with ea_ en_ ec_; (first | subst ea_ | (injection ea_ with ea_; subst ea_)); subst ec_; clear en_))
                    have GB43 := am gb43
                    have GG43 := am HG43
                    clear gb43 gl43 HG43
                    (first | simp only [add_plain] at hx266_0 | skip)
                    obtain ⟨hx43_0, hf43_0⟩ := Kd.R_celln (⟨#[]⟩ : ByteArray) HO_6.out (x10_3 : Int) p43 q43
                    replace p43 := eq_true p43
                    replace q43 := eq_true q43
                    have HP47 := Kd.R_putn HO_6.out (x10_3 : Int) ((rdOf ByteArray.empty x6_3 x10_3) ++ ((⟨#[97, 98, 99, 100]⟩ : ByteArray).extract (t265 : Int).toNat ((wrap64 (t265 + 1)) : Int).toNat))
                    rw [← Ny267.out] at HP47
                    have HQ47 := am HP47
                    clear HP47
                    refine start_ (n := 13) (S := fun w' => w'.cell? ⟨go43, (x10_3).toNat, none⟩ = some (.string (rdOf ByteArray.empty x6_3 x10_3))) (ds := [12]) #[F,F,F,F,F,F,F,F,F,F,F,F,F] (by kernel_rfl) rfl rfl (hx266_0) (fun hHeld => ?_); refine with_tabW spec_StemFill.tab19 spec_StemFill.bits19 (fun HT_ HW_ => ?_)
                    generalize wr.drew = w45 at HO_6 HO_9 HL264_0 HR264_0 HB GG43 HQ47 hf43_0 hx266_0 hx43_0 hHeld ⊢
                    refine pz 0 (some 65) #[T,F,F,F,F,F,F,F,F,F,F,F,F] (any_of HT_.out (by kernel_rfl)) (h := ?_)
                    refine pz 1 (some 66) #[T,T,F,F,F,F,F,F,F,F,F,F,F] (any_of HT_.out (by kernel_rfl)) (h := ?_)
                    refine pz 2 (some 67) #[T,T,T,F,F,F,F,F,F,F,F,F,F] (any_of HT_.out (by kernel_rfl)) (h := ?_)
                    refine pz 3 (some 68) #[T,T,T,T,F,F,F,F,F,F,F,F,F] (any_of HT_.out (by kernel_rfl)) (h := ?_)
                    refine pz 4 (some 69) #[T,T,T,T,T,F,F,F,F,F,F,F,F] (any_of HT_.out (by kernel_rfl)) (h := ?_)
                    refine pz 6 (some 71) #[T,T,T,T,T,F,T,F,F,F,F,F,F] (any_of HT_.out (by kernel_rfl)) (h := ?_)
                    refine pz 7 (some 72) #[T,T,T,T,T,F,T,T,F,F,F,F,F] (any_of HT_.out (by kernel_rfl)) (h := ?_)
                    refine pz 8 (some 73) #[T,T,T,T,T,F,T,T,T,F,F,F,F] (any_of HT_.out (by kernel_rfl)) (h := ?_)
                    refine pz 9 (some 74) #[T,T,T,T,T,F,T,T,T,T,F,F,F] (any_of HT_.out (by kernel_rfl)) (h := ?_)
                    refine take_ (i := 5) (N := some 70) (v := ?_) (a' := ?_) #[T,T,T,T,T,T,T,T,T,T,F,F,F] rfl rfl (take_ofW HT_.out HW_.out (by kernel_rfl)) (fun _ _ _ h => h) (Or.inl ⟨by rfl, ?_⟩) hHeld ?_ ?_
                    rotate_left
                    ·intro w' s0
                     go_simp
                     with_reducible rfl
                    rotate_left
                    ·simp only [Act.put, sA, sZ, sS, i64_w, i32_w]
                     rfl
                    refine pz 10 (some 75) #[T,T,T,T,T,T,T,T,T,T,T,F,F] (any_of HT_.out (by kernel_rfl)) (h := ?_)
                    refine pz 11 (some 76) #[T,T,T,T,T,T,T,T,T,T,T,T,F] (any_of HT_.out (by kernel_rfl)) (h := ?_)
                    refine last_ (i := 12) (N := none) #[T,T,T,T,T,T,T,T,T,T,T,T,T] rfl rfl (one_of HT_.out (by kernel_rfl)) (by decide) (fun K hK => ?_)
                    refine skip_ (w1 := ?_) (by rfl) rfl ?_ ?_
                    rotate_left
                    ·go_simp
                     rfl
                    refine hK.out _ _ ?_
                    clear hK K
                    refine done_ (done_of HT_.out (by kernel_rfl)) ?_
                    try go_wp2
                    go_roundg k3
                    case measure => have := HK1.out; have := HK2.out; have := HK3.out; omega
                    case rel => exact ⟨(y267), (wrap64 (x10_3 + 1)), (by first | rfl | (simp; done) | (simp [*]; done)), H', ⟨by have := HK1.out; have := HK2.out; have := HK3.out; omega⟩, ⟨ru HQ47.out⟩, ⟨by (with_reducible repeat (first | apply Kd.S_alloc | apply Kd.S_drewN | apply Kd.S_drew)); exact Kd.S_mono (Kd.S_far (p := ⟨go43, (x10_3 : Int).toNat, none⟩) (Kd.S_types HO_9.out GG43.out (by decide)) (fun _ hk => hk.2) (.string ((rdOf ByteArray.empty x6_3 x10_3) ++ ((⟨#[97, 98, 99, 100]⟩ : ByteArray).extract (t265 : Int).toNat ((wrap64 (t265 + 1)) : Int).toNat)))) (fun _ hk => trivial)⟩, ⟨by repeat (first | (with_reducible first | exact HB.out | apply below_alloc | apply pw_below_drewN | apply below_drew1 | refine below_set ?_ GB43.out) | exact HB.out)⟩⟩
                   ·rw [if_neg c42] at H
                    exact absurd H (by simp)
                  ·rw [if_neg c41] at H
                   exact absurd H (by simp)
                 ·rw [if_neg c40] at H
                  exact absurd H (by simp)
                ·rw [if_neg c39] at H
                 exact absurd H (by simp)
               ·rw [if_neg c38] at H
                exact absurd H (by simp)
              ·rw [if_neg c36] at H
               exact absurd H (by simp)
             ·rw [if_neg c35] at H
              exact absurd H (by simp)
           ·rw [if_neg c14] at H
            have c14b0 : decide (x10_3 < (l0.length : Int)) = false := decide_eq_false c14
            clear c14
            have H' := am H
            clear H
            go_wp2
            go_roundg k3
            case measure => have := HK1.out; have := HK2.out; have := HK3.out; omega
            case rel => exact ⟨(x6_3), (wrap64 (x8_2 + 1)), (by first | rfl | (simp; done) | (simp [*]; done)), H', ⟨by have := HK1.out; have := HK2.out; have := HK3.out; omega⟩, ⟨ru HO_6.out⟩, ⟨bu HB.out⟩⟩
        ·rw [if_neg c11] at H
         have c11b0 : decide (x8_2 < ((rdOf ByteArray.empty l0 0).size : Int)) = false := decide_eq_false c11
         clear c11
         simp only [Option.some.injEq, Prod.mk.injEq] at H
         obtain ⟨rfl, rfl⟩ := H
         have p254 : 0 ≤ (0 : Int) := (by omega)
         have q254 : 0 < (l0.length : Int) := od
         obtain ⟨ad254, e254, hx254_0⟩ := Kd.at_string HR0.out 0 p254 q254
         cases e254
         have qi254 : (0 < l0.length) = True := eq_true (by omega)
         (try rw [show ((0 : Int)).toNat = 0 from rfl] at hx254_0)
         (try rw [Addr.add_zero'] at hx254_0)
         replace hx254_0 := (HB.out.cell (World.block_lt_of_cell? w _ hx254_0)).trans hx254_0
         replace p254 := eq_true p254
         replace q254 := eq_true q254
         go_wp2
         go_ret2
         exact ⟨_, by first | rfl | (simp [errW_none, errW_some] <;> rfl) | (simp [*, errW_none, errW_some] <;> rfl), ru HO_6.out, bu HB.out⟩
       ·rw [if_neg c10] at H
        exact absurd H (by simp)
 ·replace c4 := Bool.eq_false_iff.mpr c4
  subst c4
  have H1 : (some (y247, false)) = some (r1, r2) := by rw [if_neg (show ¬ (false = true) by decide)] at H; exact H
  clear H
  have H := H1
  clear H1
  simp only [Option.some.injEq, Prod.mk.injEq] at H
  obtain ⟨rfl, rfl⟩ := H
  go_enter Tryd.func6, Tryd.ntmps6
  go_wp2_with (first | ((with_reducible refine gate_dst (N := 13) rfl ?_); refine Kd.R_lit Kd.string _ 9 ?hg (N := 13) ?hd (xs := ([] : List ByteArray)) (inner := []) (ok := fun _ => True) (okp := fun _ => True) ?hr ?hp (fun _ hk => hk) trivial (Below.refl _ _) (Nat.le_refl _) (by simp) ?_; (case hd => rfl); (case hg => rfl); (case hr => first | (go_simp; done) | (go_simp; rfl)); (case hp => exact (Reps.none _ _)); intro v248 w48 ho49 hb hg_ hnew_; clear hg_ hnew_; (first | rw [← Ny247.out] at ho49 | (simp only [Int.reduceToNat] at ho49; rw [← Ny247.out] at ho49)); have n0_ := am (Kd.R_lower ho49 (below_size (bu HB.out))); have n1_ := am (below_step (bu HB.out) hb); clear HB; have HO249 := n0_; have HB := n1_; clear n0_ n1_; clear hb ho49) | ((with_reducible refine gate_callee (f := 17) rfl ?_); refine goesL_ (some 16) rfl rfl Tryd.func17 (by kernel_rfl) rfl #[.slice A0 l0.length c0, .slice A1 l1.length c1] rfl (by (try simp only [List.map_toArray, List.map_cons, List.map_nil]); first | done | rfl | (simp only [List.length_drop, List.length_take]; rfl)) ?_; (with_reducible refine (spec_StemValid.calls k _ _ l0 _ _ l1 false _ ?side1 ?side2 ?side3 ?side4 A3.out).mono ?_); (case side1 => repeat (first | exact (Kd.C_below HR0.out HB.out) | (with_reducible refine Kd.C_alloc ?_ _) | (with_reducible refine Kd.C_drewN ?_ _) | (with_reducible refine Kd.C_drew ?_))); (case side2 => exact HC0.out); (case side3 => repeat (first | exact (Kd.C_below HR1.out HB.out) | (with_reducible refine Kd.C_alloc ?_ _) | (with_reducible refine Kd.C_drewN ?_ _) | (with_reducible refine Kd.C_drew ?_))); (case side4 => exact HC1.out); rintro e w' ⟨rfl, ⟨nd, rfl⟩⟩; refine ⟨_, rfl, ?_⟩))
  go_ret2
  exact ⟨_, by first | rfl | (simp [errW_none, errW_some] <;> rfl) | (simp [*, errW_none, errW_some] <;> rfl), ru HO249.out, bu HB.out⟩

/-! ### laws_sameTexts: function 7 -/
def laws_sameTexts.l0 : Nat → List ByteArray → List ByteArray → Int → Option (Bool)
 | 0, _, _, _ => none
 | k + 1, x0, x1, x5 => if x5 < (x0.length : Int) then (if 0 ≤ x5 then (if x5 < (x1.length : Int) then (if (rdOf ByteArray.empty x0 x5).toList = (rdOf ByteArray.empty x1 x5).toList then (laws_sameTexts.l0 k x0 x1 (wrap64 (x5 + 1))) else (some false)) else (none)) else (none)) else (some true)
def laws_sameTexts.f (k : Nat) (l0 : List ByteArray) (l1 : List ByteArray) : Option (Bool) := if (l0.length : Int) = (l1.length : Int) then (laws_sameTexts.l0 k l0 l1 0) else (some false)
set_option maxHeartbeats 8000000 in
set_option maxRecDepth 100000 in
theorem laws_sameTexts.calls (k : Nat) (A0 : Option Addr) (c0 : Nat) (l0 : List ByteArray) (A1 : Option Addr) (c1 : Nat) (l1 : List ByteArray) (r : Bool) (w : World) (hr0 : Kd.C Kd.string w A0 l0.length l0) (hc0 : l0.length ≤ c0) (hr1 : Kd.C Kd.string w A1 l1.length l1) (hc1 : l1.length ≤ c1) (h : laws_sameTexts.f k l0 l1 = some r) :
  Calls Tryd.prog 7 #[.slice A0 l0.length c0, .slice A1 l1.length c1] w fun e w' => e = .returned (.bool r) ∧ Drawn0 w w' := by
 have HR0 := am hr0
 have HC0 := am hc0
 clear hr0 hc0
 have HR1 := am hr1
 have HC1 := am hc1
 clear hr1 hc1
 have H : (if (l0.length : Int) = (l1.length : Int) then (laws_sameTexts.l0 k l0 l1 0) else (some false)) = some r := h
 clear h
 by_cases c3 : (l0.length : Int) = (l1.length : Int)
 ·rw [if_pos c3] at H
  have c3b0 : ((l0.length : Int) == (l1.length : Int)) = true := beq_iff_eq.mpr c3
  have c3b1 : ((l0.length : Int) != (l1.length : Int)) = false := bne_eq_false_iff_eq.mpr c3
  have c3b2 : (l0.length == l1.length) = true := by first | simpa using c3 | (simp at c3 ⊢; omega)
  clear c3
  have H' := am H
  clear H
  go_enter Tryd.func7, Tryd.ntmps7
  go_wp2
  repeat (go_quiet (fail); try go_wp2)
  go_loopg [5] k (fun kq v5 w' => ∃ (x5_1 : Int), v5 = .int .i64 x5_1 ∧ Aside0 (laws_sameTexts.l0 kq l0 l1 x5_1 = some r) ∧ Aside0 (kq ≤ k) ∧ Drawn0 w w')
  case atStart => exact ⟨(0), (by first | rfl | (simp; done) | (simp [*]; done)), H', ⟨Nat.le_refl _⟩, by repeat (first | exact Drawn0.refl _ | apply Drawn0.step)⟩
  case round =>
   clear H'
   try clear c1
   try clear p2
   try clear c3
   try clear c3b0
   try clear c3b1
   try clear c3b2
   obtain ⟨x5_1, rfl, HA, HK1, ⟨m1, rfl⟩⟩ := hrel
   cases gk with
   | zero => exact absurd HA.out (by simp [laws_sameTexts.l0])
   | succ k1 =>
    have H := HA.out
    clear HA
    simp only [laws_sameTexts.l0] at H
    by_cases c4 : x5_1 < (l0.length : Int)
    ·rw [if_pos c4] at H
     have c4b0 : decide (x5_1 < (l0.length : Int)) = true := decide_eq_true c4
     clear c4
     by_cases c5 : 0 ≤ x5_1
     ·rw [if_pos c5] at H
      have c5b0 : decide (0 ≤ x5_1) = true := decide_eq_true c5
      clear c5
      by_cases c6 : x5_1 < (l1.length : Int)
      ·rw [if_pos c6] at H
       have c6b0 : decide (x5_1 < (l1.length : Int)) = true := decide_eq_true c6
       clear c6
       by_cases c7 : (rdOf ByteArray.empty l0 x5_1).toList = (rdOf ByteArray.empty l1 x5_1).toList
       ·rw [if_pos c7] at H
        have c7b0 : ((rdOf ByteArray.empty l0 x5_1).toList == (rdOf ByteArray.empty l1 x5_1).toList) = true := beq_iff_eq.mpr c7
        have c7b1 : ((rdOf ByteArray.empty l0 x5_1).toList != (rdOf ByteArray.empty l1 x5_1).toList) = false := bne_eq_false_iff_eq.mpr c7
        clear c7
        have H' := am H
        clear H
        have p268 : 0 ≤ (x5_1 : Int) := od
        have q268 : x5_1 < (l0.length : Int) := od
        obtain ⟨ad268, e268, hx268_0⟩ := Kd.at_string HR0.out x5_1 p268 q268
        cases e268
        replace p268 := eq_true p268
        replace q268 := eq_true q268
        have p269 : 0 ≤ (x5_1 : Int) := od
        have q269 : x5_1 < (l1.length : Int) := od
        obtain ⟨ad269, e269, hx269_0⟩ := Kd.at_string HR1.out x5_1 p269 q269
        cases e269
        replace p269 := eq_true p269
        replace q269 := eq_true q269
        go_wp2
        repeat (go_quiet (fail); try go_wp2)
        go_roundg k1
        case measure => have := HK1.out; omega
        case rel => exact ⟨(wrap64 (x5_1 + 1)), (by first | rfl | (simp; done) | (simp [*]; done)), H', ⟨by have := HK1.out; omega⟩, by repeat (first | exact Drawn0.refl _ | apply Drawn0.step)⟩
       ·rw [if_neg c7] at H
        have c7b0 : ((rdOf ByteArray.empty l0 x5_1).toList == (rdOf ByteArray.empty l1 x5_1).toList) = false := beq_eq_false_iff_ne.mpr c7
        have c7b1 : ((rdOf ByteArray.empty l0 x5_1).toList != (rdOf ByteArray.empty l1 x5_1).toList) = true := bne_iff_ne.mpr c7
        obtain rfl := Option.some.inj H
        have p268 : 0 ≤ (x5_1 : Int) := od
        have q268 : x5_1 < (l0.length : Int) := od
        obtain ⟨ad268, e268, hx268_0⟩ := Kd.at_string HR0.out x5_1 p268 q268
        cases e268
        replace p268 := eq_true p268
        replace q268 := eq_true q268
        have p269 : 0 ≤ (x5_1 : Int) := od
        have q269 : x5_1 < (l1.length : Int) := od
        obtain ⟨ad269, e269, hx269_0⟩ := Kd.at_string HR1.out x5_1 p269 q269
        cases e269
        replace p269 := eq_true p269
        replace q269 := eq_true q269
        go_wp2
        repeat (go_quiet (fail); try go_wp2)
        go_ret
        exact ⟨by first | rfl | (simp; done) | (simp [*]; done), by repeat (first | exact Drawn0.refl _ | apply Drawn0.step)⟩
      ·rw [if_neg c6] at H
       exact absurd H (by simp)
     ·rw [if_neg c5] at H
      exact absurd H (by simp)
    ·rw [if_neg c4] at H
     have c4b0 : decide (x5_1 < (l0.length : Int)) = false := decide_eq_false c4
     clear c4
     obtain rfl := Option.some.inj H
     go_wp2
     repeat (go_quiet (fail); try go_wp2)
     go_ret
     exact ⟨by first | rfl | (simp; done) | (simp [*]; done), by repeat (first | exact Drawn0.refl _ | apply Drawn0.step)⟩
 ·rw [if_neg c3] at H
  have c3b0 : ((l0.length : Int) == (l1.length : Int)) = false := beq_eq_false_iff_ne.mpr c3
  have c3b1 : ((l0.length : Int) != (l1.length : Int)) = true := bne_iff_ne.mpr c3
  have c3b2 : (l0.length == l1.length) = false := by first | simpa using c3 | (simp at c3 ⊢; omega)
  obtain rfl := Option.some.inj H
  go_enter Tryd.func7, Tryd.ntmps7
  go_wp2
  repeat (go_quiet (fail); try go_wp2)
  go_ret
  exact ⟨by first | rfl | (simp; done) | (simp [*]; done), by repeat (first | exact Drawn0.refl _ | apply Drawn0.step)⟩

/-! ### impl_BooksValid: function 20 -/
def impl_BooksValid.f (k : Nat) (l0 : List ByteArray) : Option (Bool) := (impl_lostOf.f k l0).bind fun bt270 => (if bt270.2 = true then (some (bt270.1 == 0)) else (some false))
set_option maxHeartbeats 8000000 in
set_option maxRecDepth 100000 in
theorem impl_BooksValid.calls (k : Nat) (A0 : Option Addr) (c0 : Nat) (l0 : List ByteArray) (r : Bool) (w : World) (hr0 : Kd.C Kd.string w A0 l0.length l0) (hc0 : l0.length ≤ c0) (h : impl_BooksValid.f k l0 = some r) :
  Calls Tryd.prog 20 #[.slice A0 l0.length c0] w fun e w' => e = .returned (.bool r) ∧ Below w.heap.size w w' := by
 have HR0 := am hr0
 have HC0 := am hc0
 clear hr0 hc0
 have HB := am (Below.refl w.heap.size w)
 have H : ((impl_lostOf.f k l0).bind fun bt270 => (if bt270.2 = true then (some (bt270.1 == 0)) else (some false))) = some r := h
 clear h
 replace H := Option.bind_eq_some_iff.mp H
 obtain ⟨⟨t270, t271⟩, A20, H⟩ := H
 replace H : (if t271 = true then (some (t270 == 0)) else (some false)) = some r := H
 have A2 := am A20
 clear A20
 by_cases c3 : t271 = true
 ·subst c3
  have H1 : (some (t270 == 0)) = some r := by rw [if_pos rfl] at H; exact H
  clear H
  have H := H1
  clear H1
  obtain rfl := Option.some.inj H
  go_enter Tryd.func20, Tryd.ntmps20
  go_wp2_with (first | ((with_reducible refine gate_callee (f := 24) rfl ?_); refine goesL_ (some 7) rfl rfl Tryd.func24 (by kernel_rfl) rfl #[.slice A0 l0.length c0] rfl (by (try simp only [List.map_toArray, List.map_cons, List.map_nil]); first | done | rfl | (simp only [List.length_drop, List.length_take]; rfl)) ?_; (with_reducible refine (impl_lostOf.calls k _ _ l0 t270 true _ ?side1 ?side2 A2.out).mono ?_); (case side1 => exact cu HR0.out); (case side2 => exact HC0.out); rintro e w4 ⟨rfl, hb⟩; refine ⟨_, rfl, ?_⟩; have n0_ := am (below_step (bu HB.out) hb); clear HB; have HB := n0_; clear n0_; (try clear hb); (try clear hb2); (try clear hk); (try clear hi)))
  go_ret
  exact ⟨by first | rfl | (simp [errW_none, errW_some] <;> rfl) | (simp [*, errW_none, errW_some] <;> rfl), bu HB.out⟩
 ·replace c3 := Bool.eq_false_iff.mpr c3
  subst c3
  have H1 : (some false) = some r := by rw [if_neg (show ¬ (false = true) by decide)] at H; exact H
  clear H
  have H := H1
  clear H1
  obtain rfl := Option.some.inj H
  go_enter Tryd.func20, Tryd.ntmps20
  go_wp2_with (first | ((with_reducible refine gate_callee (f := 24) rfl ?_); refine goesL_ (some 7) rfl rfl Tryd.func24 (by kernel_rfl) rfl #[.slice A0 l0.length c0] rfl (by (try simp only [List.map_toArray, List.map_cons, List.map_nil]); first | done | rfl | (simp only [List.length_drop, List.length_take]; rfl)) ?_; (with_reducible refine (impl_lostOf.calls k _ _ l0 t270 false _ ?side1 ?side2 A2.out).mono ?_); (case side1 => exact cu HR0.out); (case side2 => exact HC0.out); rintro e w5 ⟨rfl, hb⟩; refine ⟨_, rfl, ?_⟩; have n0_ := am (below_step (bu HB.out) hb); clear HB; have HB := n0_; clear n0_; (try clear hb); (try clear hb2); (try clear hk); (try clear hi)))
  go_ret
  exact ⟨by first | rfl | (simp [errW_none, errW_some] <;> rfl) | (simp [*, errW_none, errW_some] <;> rfl), bu HB.out⟩

/-! ### impl_farBetween: function 30 -/
def impl_farBetween.l0 : Nat → ByteArray → ByteArray → Int → Int → Int → Option (Int)
 | 0, _, _, _, _, _ => none
 | k + 1, x0, x1, x5, x8, x9 => if x9 < x8 then (if 0 ≤ x9 then (if x9 < (x0.size : Int) then (if x9 < (x1.size : Int) then (if (bt x0 x9) = (bt x1 x9) then (impl_farBetween.l0 k x0 x1 x5 x8 (wrap64 (x9 + 1))) else (impl_farBetween.l0 k x0 x1 (wrap64 (x5 + 1)) x8 (wrap64 (x9 + 1)))) else (none)) else (none)) else (none)) else (some x5)
def impl_farBetween.f (k : Nat) (a0 : ByteArray) (a1 : ByteArray) : Option (Int) := impl_farBetween.l0 k a0 a1 0 (a0.size : Int) 0
set_option maxHeartbeats 8000000 in
set_option maxRecDepth 100000 in
theorem impl_farBetween.calls (k : Nat) (a0 : ByteArray) (a1 : ByteArray) (r : Int) (w : World) (h : impl_farBetween.f k a0 a1 = some r) :
  Calls Tryd.prog 30 #[.string a0, .string a1] w fun e w' => e = .returned (.int .i64 r) ∧ Drawn0 w w' := by
 have H : (impl_farBetween.l0 k a0 a1 0 (a0.size : Int) 0) = some r := h
 clear h
 have H' := am H
 clear H
 go_enter Tryd.func30, Tryd.ntmps30
 go_wp2
 repeat (go_quiet (fail); try go_wp2)
 go_loopg [5, 9] k (fun kq v5 v9 w' => ∃ (x5_1 : Int) (x9_1 : Int), v5 = .int .i64 x5_1 ∧ v9 = .int .i64 x9_1 ∧ Aside0 (impl_farBetween.l0 kq a0 a1 x5_1 (a0.size : Int) x9_1 = some r) ∧ Aside0 (kq ≤ k) ∧ Drawn0 w w')
 case atStart => exact ⟨(0), (0), (by first | rfl | (simp; done) | (simp [*]; done)), (by first | rfl | (simp; done) | (simp [*]; done)), H', ⟨Nat.le_refl _⟩, by repeat (first | exact Drawn0.refl _ | apply Drawn0.step)⟩
 case round =>
  clear H'
  try clear p2
  obtain ⟨x5_1, x9_1, rfl, rfl, HA, HK1, ⟨m1, rfl⟩⟩ := hrel
  cases gk with
  | zero => exact absurd HA.out (by simp [impl_farBetween.l0])
  | succ k1 =>
   have H := HA.out
   clear HA
   simp only [impl_farBetween.l0] at H
   by_cases c3 : x9_1 < (a0.size : Int)
   ·rw [if_pos c3] at H
    have c3b0 : decide (x9_1 < (a0.size : Int)) = true := decide_eq_true c3
    clear c3
    by_cases c4 : 0 ≤ x9_1
    ·rw [if_pos c4] at H
     have c4b0 : decide (0 ≤ x9_1) = true := decide_eq_true c4
     clear c4
     by_cases c5 : x9_1 < (a0.size : Int)
     ·rw [if_pos c5] at H
      have c5b0 : decide (x9_1 < (a0.size : Int)) = true := decide_eq_true c5
      clear c5
      by_cases c7 : x9_1 < (a1.size : Int)
      ·rw [if_pos c7] at H
       have c7b0 : decide (x9_1 < (a1.size : Int)) = true := decide_eq_true c7
       clear c7
       by_cases c9 : (bt a0 x9_1) = (bt a1 x9_1)
       ·rw [if_pos c9] at H
        have c9b0 : ((bt a0 x9_1) == (bt a1 x9_1)) = true := beq_iff_eq.mpr c9
        have c9b1 : ((bt a0 x9_1) != (bt a1 x9_1)) = false := bne_eq_false_iff_eq.mpr c9
        clear c9
        have H' := am H
        clear H
        have p6 : 0 ≤ (x9_1 : Int) := od
        have q6 : x9_1 < (a0.size : Int) := od
        have hx6 := bt_at a0 x9_1
        replace p6 := eq_true p6
        replace q6 := eq_true q6
        have p8 : 0 ≤ (x9_1 : Int) := od
        have q8 : x9_1 < (a1.size : Int) := od
        have hx8 := bt_at a1 x9_1
        replace p8 := eq_true p8
        replace q8 := eq_true q8
        go_wp2
        repeat (go_quiet (fail); try go_wp2)
        go_roundg k1
        case measure => have := HK1.out; omega
        case rel => exact ⟨(x5_1), (wrap64 (x9_1 + 1)), (by first | rfl | (simp; done) | (simp [*]; done)), (by first | rfl | (simp; done) | (simp [*]; done)), H', ⟨by have := HK1.out; omega⟩, by repeat (first | exact Drawn0.refl _ | apply Drawn0.step)⟩
       ·rw [if_neg c9] at H
        have c9b0 : ((bt a0 x9_1) == (bt a1 x9_1)) = false := beq_eq_false_iff_ne.mpr c9
        have c9b1 : ((bt a0 x9_1) != (bt a1 x9_1)) = true := bne_iff_ne.mpr c9
        have H' := am H
        clear H
        have p6 : 0 ≤ (x9_1 : Int) := od
        have q6 : x9_1 < (a0.size : Int) := od
        have hx6 := bt_at a0 x9_1
        replace p6 := eq_true p6
        replace q6 := eq_true q6
        have p8 : 0 ≤ (x9_1 : Int) := od
        have q8 : x9_1 < (a1.size : Int) := od
        have hx8 := bt_at a1 x9_1
        replace p8 := eq_true p8
        replace q8 := eq_true q8
        go_wp2
        repeat (go_quiet (fail); try go_wp2)
        go_roundg k1
        case measure => have := HK1.out; omega
        case rel => exact ⟨(wrap64 (x5_1 + 1)), (wrap64 (x9_1 + 1)), (by first | rfl | (simp; done) | (simp [*]; done)), (by first | rfl | (simp; done) | (simp [*]; done)), H', ⟨by have := HK1.out; omega⟩, by repeat (first | exact Drawn0.refl _ | apply Drawn0.step)⟩
      ·rw [if_neg c7] at H
       exact absurd H (by simp)
     ·rw [if_neg c5] at H
      exact absurd H (by simp)
    ·rw [if_neg c4] at H
     exact absurd H (by simp)
   ·rw [if_neg c3] at H
    have c3b0 : decide (x9_1 < (a0.size : Int)) = false := decide_eq_false c3
    clear c3
    obtain rfl := Option.some.inj H
    go_wp2
    repeat (go_quiet (fail); try go_wp2)
    go_ret
    exact ⟨by first | rfl | (simp; done) | (simp [*]; done), by repeat (first | exact Drawn0.refl _ | apply Drawn0.step)⟩

/-! ### impl_changesOf: function 21 -/
def impl_changesOf.l0 : Nat → List ByteArray → List Int → Int → Int → Option (Int)
 | 0, _, _, _, _ => none
 | k + 1, x0, x1, x5, x6 => if x6 < (x0.length : Int) then (if 0 ≤ x6 then (if x6 < (x1.length : Int) then (if 0 ≤ (rd x1 x6) then (if (rd x1 x6) < (x0.length : Int) then ((impl_farBetween.f k (rdOf ByteArray.empty x0 x6) (rdOf ByteArray.empty x0 (rd x1 x6))).bind fun t275 => (impl_changesOf.l0 k x0 x1 (wrap64 (x5 + t275)) (wrap64 (x6 + 1)))) else (none)) else (none)) else (none)) else (none)) else (some x5)
def impl_changesOf.f (k : Nat) (l0 : List ByteArray) (l1 : List Int) : Option (Int) := impl_changesOf.l0 k l0 l1 0 1
set_option maxHeartbeats 8000000 in
set_option maxRecDepth 100000 in
theorem impl_changesOf.calls (k : Nat) (A0 : Option Addr) (c0 : Nat) (l0 : List ByteArray) (A1 : Option Addr) (c1 : Nat) (l1 : List Int) (r : Int) (w : World) (hr0 : Kd.C Kd.string w A0 l0.length l0) (hc0 : l0.length ≤ c0) (hr1 : Kd.C (Kd.int .i64) w A1 l1.length l1) (hc1 : l1.length ≤ c1) (h : impl_changesOf.f k l0 l1 = some r) :
  Calls Tryd.prog 21 #[.slice A0 l0.length c0, .slice A1 l1.length c1] w fun e w' => e = .returned (.int .i64 r) ∧ Drawn0 w w' := by
 have HR0 := am hr0
 have HC0 := am hc0
 clear hr0 hc0
 have HR1 := am hr1
 have HC1 := am hc1
 clear hr1 hc1
 have H : (impl_changesOf.l0 k l0 l1 0 1) = some r := h
 clear h
 have H' := am H
 clear H
 go_enter Tryd.func21, Tryd.ntmps21
 go_wp2
 repeat (go_quiet (fail); try go_wp2)
 go_loopg [5, 6] k (fun kq v5 v6 w' => ∃ (x5_1 : Int) (x6_1 : Int), v5 = .int .i64 x5_1 ∧ v6 = .int .i64 x6_1 ∧ Aside0 (impl_changesOf.l0 kq l0 l1 x5_1 x6_1 = some r) ∧ Aside0 (kq ≤ k) ∧ Drawn0 w w')
 case atStart => exact ⟨(0), (1), (by first | rfl | (simp; done) | (simp [*]; done)), (by first | rfl | (simp; done) | (simp [*]; done)), H', ⟨Nat.le_refl _⟩, by repeat (first | exact Drawn0.refl _ | apply Drawn0.step)⟩
 case round =>
  clear H'
  try clear c1
  try clear c2
  try clear p2
  obtain ⟨x5_1, x6_1, rfl, rfl, HA, HK1, ⟨m1, rfl⟩⟩ := hrel
  cases gk with
  | zero => exact absurd HA.out (by simp [impl_changesOf.l0])
  | succ k1 =>
   have H := HA.out
   clear HA
   simp only [impl_changesOf.l0] at H
   by_cases c3 : x6_1 < (l0.length : Int)
   ·rw [if_pos c3] at H
    have c3b0 : decide (x6_1 < (l0.length : Int)) = true := decide_eq_true c3
    clear c3
    by_cases c4 : 0 ≤ x6_1
    ·rw [if_pos c4] at H
     have c4b0 : decide (0 ≤ x6_1) = true := decide_eq_true c4
     clear c4
     by_cases c5 : x6_1 < (l1.length : Int)
     ·rw [if_pos c5] at H
      have c5b0 : decide (x6_1 < (l1.length : Int)) = true := decide_eq_true c5
      clear c5
      by_cases c6 : 0 ≤ (rd l1 x6_1)
      ·rw [if_pos c6] at H
       have c6b0 : decide (0 ≤ (rd l1 x6_1)) = true := decide_eq_true c6
       clear c6
       by_cases c7 : (rd l1 x6_1) < (l0.length : Int)
       ·rw [if_pos c7] at H
        have c7b0 : decide ((rd l1 x6_1) < (l0.length : Int)) = true := decide_eq_true c7
        clear c7
        replace H := Option.bind_eq_some_iff.mp H
        obtain ⟨t275, A80, H⟩ := H
        replace H : (impl_changesOf.l0 k1 l0 l1 (wrap64 (x5_1 + t275)) (wrap64 (x6_1 + 1))) = some r := H
        have A8 := am A80
        clear A80
        have H' := am H
        clear H
        have p272 : 0 ≤ (x6_1 : Int) := od
        have q272 : x6_1 < (l0.length : Int) := od
        obtain ⟨ad272, e272, hx272_0⟩ := Kd.at_string HR0.out x6_1 p272 q272
        cases e272
        replace p272 := eq_true p272
        replace q272 := eq_true q272
        have p273 : 0 ≤ (x6_1 : Int) := od
        have q273 : x6_1 < (l1.length : Int) := od
        obtain ⟨ad273, e273, hx273_0⟩ := Kd.at_int HR1.out x6_1 p273 q273
        cases e273
        replace p273 := eq_true p273
        replace q273 := eq_true q273
        have p274 : 0 ≤ ((rd l1 x6_1) : Int) := od
        have q274 : (rd l1 x6_1) < (l0.length : Int) := od
        obtain ⟨ad274, e274, hx274_0⟩ := Kd.at_string HR0.out (rd l1 x6_1) p274 q274
        obtain rfl : ad272 = ad274 := (by injection e274)
        replace p274 := eq_true p274
        replace q274 := eq_true q274
        go_wp2_with (first | (go_at_call 30; (with_reducible refine (impl_farBetween.calls k1 (rdOf ByteArray.empty l0 x6_1) (rdOf ByteArray.empty l0 (rd l1 x6_1)) t275 _ A8.out).mono ?_); rintro e w' ⟨rfl, ⟨nd, rfl⟩⟩; (try first | exact ⟨rfl, _, World.drewN_drewN _ _ _⟩ | exact ⟨rfl, _, Eq.trans (World.drewN_drewN _ _ _) (congrArg (World.drewN _) (Nat.add_assoc _ _ _))⟩)))
        repeat (go_quiet (first | (go_at_call 30; (with_reducible refine (impl_farBetween.calls k1 (rdOf ByteArray.empty l0 x6_1) (rdOf ByteArray.empty l0 (rd l1 x6_1)) t275 _ A8.out).mono ?_); rintro e w' ⟨rfl, ⟨nd, rfl⟩⟩; (try first | exact ⟨rfl, _, World.drewN_drewN _ _ _⟩ | exact ⟨rfl, _, Eq.trans (World.drewN_drewN _ _ _) (congrArg (World.drewN _) (Nat.add_assoc _ _ _))⟩))); try go_wp2_with (first | (go_at_call 30; (with_reducible refine (impl_farBetween.calls k1 (rdOf ByteArray.empty l0 x6_1) (rdOf ByteArray.empty l0 (rd l1 x6_1)) t275 _ A8.out).mono ?_); rintro e w' ⟨rfl, ⟨nd, rfl⟩⟩; (try first | exact ⟨rfl, _, World.drewN_drewN _ _ _⟩ | exact ⟨rfl, _, Eq.trans (World.drewN_drewN _ _ _) (congrArg (World.drewN _) (Nat.add_assoc _ _ _))⟩))))
        go_roundg k1
        case measure => have := HK1.out; omega
        case rel => exact ⟨(wrap64 (x5_1 + t275)), (wrap64 (x6_1 + 1)), (by first | rfl | (simp; done) | (simp [*]; done)), (by first | rfl | (simp; done) | (simp [*]; done)), H', ⟨by have := HK1.out; omega⟩, by repeat (first | exact Drawn0.refl _ | apply Drawn0.step)⟩
       ·rw [if_neg c7] at H
        exact absurd H (by simp)
      ·rw [if_neg c6] at H
       exact absurd H (by simp)
     ·rw [if_neg c5] at H
      exact absurd H (by simp)
    ·rw [if_neg c4] at H
     exact absurd H (by simp)
   ·rw [if_neg c3] at H
    have c3b0 : decide (x6_1 < (l0.length : Int)) = false := decide_eq_false c3
    clear c3
    obtain rfl := Option.some.inj H
    go_wp2
    repeat (go_quiet (fail); try go_wp2)
    go_ret
    exact ⟨by first | rfl | (simp; done) | (simp [*]; done), by repeat (first | exact Drawn0.refl _ | apply Drawn0.step)⟩

/-! ### impl_StemChanges: function 8 -/
def impl_StemChanges.f (k : Nat) (l0 : List ByteArray) (l1 : List Int) : Option (Int) := (impl_StemValid.f k l0 l1).bind fun t276 => (if t276 = true then ((impl_BooksValid.f k l0).bind fun t277 => (if t277 = true then ((impl_changesOf.f k l0 l1).bind fun t278 => (some t278)) else (some (-1)))) else (some (-1)))
set_option maxHeartbeats 8000000 in
set_option maxRecDepth 100000 in
theorem impl_StemChanges.calls (k : Nat) (A0 : Option Addr) (c0 : Nat) (l0 : List ByteArray) (A1 : Option Addr) (c1 : Nat) (l1 : List Int) (r : Int) (w : World) (hr0 : Kd.C Kd.string w A0 l0.length l0) (hc0 : l0.length ≤ c0) (hr1 : Kd.C (Kd.int .i64) w A1 l1.length l1) (hc1 : l1.length ≤ c1) (h : impl_StemChanges.f k l0 l1 = some r) :
  Calls Tryd.prog 8 #[.slice A0 l0.length c0, .slice A1 l1.length c1] w fun e w' => e = .returned (.int .i64 r) ∧ Below w.heap.size w w' := by
 have HR0 := am hr0
 have HC0 := am hc0
 clear hr0 hc0
 have HR1 := am hr1
 have HC1 := am hc1
 clear hr1 hc1
 have HB := am (Below.refl w.heap.size w)
 have H : ((impl_StemValid.f k l0 l1).bind fun t276 => (if t276 = true then ((impl_BooksValid.f k l0).bind fun t277 => (if t277 = true then ((impl_changesOf.f k l0 l1).bind fun t278 => (some t278)) else (some (-1)))) else (some (-1)))) = some r := h
 clear h
 replace H := Option.bind_eq_some_iff.mp H
 obtain ⟨t276, A30, H⟩ := H
 replace H : (if t276 = true then ((impl_BooksValid.f k l0).bind fun t277 => (if t277 = true then ((impl_changesOf.f k l0 l1).bind fun t278 => (some t278)) else (some (-1)))) else (some (-1))) = some r := H
 have A3 := am A30
 clear A30
 by_cases c4 : t276 = true
 ·subst c4
  have H1 : ((impl_BooksValid.f k l0).bind fun t277 => (if t277 = true then ((impl_changesOf.f k l0 l1).bind fun t278 => (some t278)) else (some (-1)))) = some r := by rw [if_pos rfl] at H; exact H
  clear H
  have H := H1
  clear H1
  replace H := Option.bind_eq_some_iff.mp H
  obtain ⟨t277, A50, H⟩ := H
  replace H : (if t277 = true then ((impl_changesOf.f k l0 l1).bind fun t278 => (some t278)) else (some (-1))) = some r := H
  have A5 := am A50
  clear A50
  by_cases c6 : t277 = true
  ·subst c6
   have H1 : ((impl_changesOf.f k l0 l1).bind fun t278 => (some t278)) = some r := by rw [if_pos rfl] at H; exact H
   clear H
   have H := H1
   clear H1
   replace H := Option.bind_eq_some_iff.mp H
   obtain ⟨t278, A70, H⟩ := H
   replace H : (some t278) = some r := H
   have A7 := am A70
   clear A70
   obtain rfl := Option.some.inj H
   go_enter Tryd.func8, Tryd.ntmps8
   go_wp2_with (first | ((with_reducible refine gate_callee (f := 13) rfl ?_); refine goesL_ (some 7) rfl rfl Tryd.func13 (by kernel_rfl) rfl #[.slice A0 l0.length c0, .slice A1 l1.length c1] rfl (by (try simp only [List.map_toArray, List.map_cons, List.map_nil]); first | done | rfl | (simp only [List.length_drop, List.length_take]; rfl)) ?_; (with_reducible refine (impl_StemValid.calls k _ _ l0 _ _ l1 true _ ?side1 ?side2 ?side3 ?side4 A3.out).mono ?_); (case side1 => exact cu HR0.out); (case side2 => exact HC0.out); (case side3 => exact cu HR1.out); (case side4 => exact HC1.out); rintro e w8 ⟨rfl, hb⟩; refine ⟨_, rfl, ?_⟩; have n0_ := am (below_step (bu HB.out) hb); clear HB; have HB := n0_; clear n0_; (try clear hb); (try clear hb2); (try clear hk); (try clear hi)) | (go_at_call 20; (with_reducible refine (impl_BooksValid.calls k _ _ l0 true _ ?side1 ?side2 A5.out).mono ?_); (case side1 => repeat (first | exact (Kd.C_below HR0.out HB.out) | (with_reducible refine Kd.C_alloc ?_ _) | (with_reducible refine Kd.C_drewN ?_ _) | (with_reducible refine Kd.C_drew ?_))); (case side2 => exact HC0.out); rintro e w9 ⟨rfl, hb⟩; have n0_ := am (below_step (bu HB.out) hb); clear HB; have HB := n0_; clear n0_; (try clear hb); (try clear hb2); (try clear hk); (try clear hi)) | ((with_reducible refine gate_callee (f := 21) rfl ?_); refine goesL_ (some 16) rfl rfl Tryd.func21 (by kernel_rfl) rfl #[.slice A0 l0.length c0, .slice A1 l1.length c1] rfl (by (try simp only [List.map_toArray, List.map_cons, List.map_nil]); first | done | rfl | (simp only [List.length_drop, List.length_take]; rfl)) ?_; (with_reducible refine (impl_changesOf.calls k _ _ l0 _ _ l1 t278 _ ?side1 ?side2 ?side3 ?side4 A7.out).mono ?_); (case side1 => repeat (first | exact (Kd.C_below HR0.out HB.out) | (with_reducible refine Kd.C_alloc ?_ _) | (with_reducible refine Kd.C_drewN ?_ _) | (with_reducible refine Kd.C_drew ?_))); (case side2 => exact HC0.out); (case side3 => repeat (first | exact (Kd.C_below HR1.out HB.out) | (with_reducible refine Kd.C_alloc ?_ _) | (with_reducible refine Kd.C_drewN ?_ _) | (with_reducible refine Kd.C_drew ?_))); (case side4 => exact HC1.out); rintro e w' ⟨rfl, ⟨nd, rfl⟩⟩; refine ⟨_, rfl, ?_⟩))
   go_ret
   exact ⟨by first | rfl | (simp [errW_none, errW_some] <;> rfl) | (simp [*, errW_none, errW_some] <;> rfl), bu HB.out⟩
  ·replace c6 := Bool.eq_false_iff.mpr c6
   subst c6
   have H1 : (some (-1)) = some r := by rw [if_neg (show ¬ (false = true) by decide)] at H; exact H
   clear H
   have H := H1
   clear H1
   obtain rfl := Option.some.inj H
   go_enter Tryd.func8, Tryd.ntmps8
   go_wp2_with (first | ((with_reducible refine gate_callee (f := 13) rfl ?_); refine goesL_ (some 7) rfl rfl Tryd.func13 (by kernel_rfl) rfl #[.slice A0 l0.length c0, .slice A1 l1.length c1] rfl (by (try simp only [List.map_toArray, List.map_cons, List.map_nil]); first | done | rfl | (simp only [List.length_drop, List.length_take]; rfl)) ?_; (with_reducible refine (impl_StemValid.calls k _ _ l0 _ _ l1 true _ ?side1 ?side2 ?side3 ?side4 A3.out).mono ?_); (case side1 => exact cu HR0.out); (case side2 => exact HC0.out); (case side3 => exact cu HR1.out); (case side4 => exact HC1.out); rintro e w10 ⟨rfl, hb⟩; refine ⟨_, rfl, ?_⟩; have n0_ := am (below_step (bu HB.out) hb); clear HB; have HB := n0_; clear n0_; (try clear hb); (try clear hb2); (try clear hk); (try clear hi)) | (go_at_call 20; (with_reducible refine (impl_BooksValid.calls k _ _ l0 false _ ?side1 ?side2 A5.out).mono ?_); (case side1 => repeat (first | exact (Kd.C_below HR0.out HB.out) | (with_reducible refine Kd.C_alloc ?_ _) | (with_reducible refine Kd.C_drewN ?_ _) | (with_reducible refine Kd.C_drew ?_))); (case side2 => exact HC0.out); rintro e w11 ⟨rfl, hb⟩; have n0_ := am (below_step (bu HB.out) hb); clear HB; have HB := n0_; clear n0_; (try clear hb); (try clear hb2); (try clear hk); (try clear hi)))
   go_ret
   exact ⟨by first | rfl | (simp [errW_none, errW_some] <;> rfl) | (simp [*, errW_none, errW_some] <;> rfl), bu HB.out⟩
 ·replace c4 := Bool.eq_false_iff.mpr c4
  subst c4
  have H1 : (some (-1)) = some r := by rw [if_neg (show ¬ (false = true) by decide)] at H; exact H
  clear H
  have H := H1
  clear H1
  obtain rfl := Option.some.inj H
  go_enter Tryd.func8, Tryd.ntmps8
  go_wp2_with (first | ((with_reducible refine gate_callee (f := 13) rfl ?_); refine goesL_ (some 7) rfl rfl Tryd.func13 (by kernel_rfl) rfl #[.slice A0 l0.length c0, .slice A1 l1.length c1] rfl (by (try simp only [List.map_toArray, List.map_cons, List.map_nil]); first | done | rfl | (simp only [List.length_drop, List.length_take]; rfl)) ?_; (with_reducible refine (impl_StemValid.calls k _ _ l0 _ _ l1 false _ ?side1 ?side2 ?side3 ?side4 A3.out).mono ?_); (case side1 => exact cu HR0.out); (case side2 => exact HC0.out); (case side3 => exact cu HR1.out); (case side4 => exact HC1.out); rintro e w12 ⟨rfl, hb⟩; refine ⟨_, rfl, ?_⟩; have n0_ := am (below_step (bu HB.out) hb); clear HB; have HB := n0_; clear n0_; (try clear hb); (try clear hb2); (try clear hk); (try clear hi)))
  go_ret
  exact ⟨by first | rfl | (simp [errW_none, errW_some] <;> rfl) | (simp [*, errW_none, errW_some] <;> rfl), bu HB.out⟩

/-! ### impl_StemFewest: function 9 -/
def impl_StemFewest.f (k : Nat) (l0 : List ByteArray) (l1 : List Int) : Option (Int) := (impl_StemFill.f k l0 l1).bind fun bt279 => (if bt279.2 = true then ((impl_changesOf.f k bt279.1 l1).bind fun t283 => (some t283)) else (some (-1)))
set_option maxHeartbeats 8000000 in
set_option maxRecDepth 100000 in
theorem impl_StemFewest.calls (k : Nat) (A0 : Option Addr) (c0 : Nat) (l0 : List ByteArray) (A1 : Option Addr) (c1 : Nat) (l1 : List Int) (r : Int) (w : World) (hr0 : Kd.C Kd.string w A0 l0.length l0) (hc0 : l0.length ≤ c0) (hr1 : Kd.C (Kd.int .i64) w A1 l1.length l1) (hc1 : l1.length ≤ c1) (h : impl_StemFewest.f k l0 l1 = some r) :
  Calls Tryd.prog 9 #[.slice A0 l0.length c0, .slice A1 l1.length c1] w fun e w' => e = .returned (.int .i64 r) ∧ Below w.heap.size w w' := by
 have HR0 := am hr0
 have HC0 := am hc0
 clear hr0 hc0
 have HR1 := am hr1
 have HC1 := am hc1
 clear hr1 hc1
 have HB := am (Below.refl w.heap.size w)
 have H : ((impl_StemFill.f k l0 l1).bind fun bt279 => (if bt279.2 = true then ((impl_changesOf.f k bt279.1 l1).bind fun t283 => (some t283)) else (some (-1)))) = some r := h
 clear h
 replace H := Option.bind_eq_some_iff.mp H
 obtain ⟨⟨t279, t280⟩, A30, H⟩ := H
 replace H : (if t280 = true then ((impl_changesOf.f k t279 l1).bind fun t283 => (some t283)) else (some (-1))) = some r := H
 have A3 := am A30
 clear A30
 by_cases c4 : t280 = true
 ·subst c4
  have H1 : ((impl_changesOf.f k t279 l1).bind fun t283 => (some t283)) = some r := by rw [if_pos rfl] at H; exact H
  clear H
  have H := H1
  clear H1
  replace H := Option.bind_eq_some_iff.mp H
  obtain ⟨t283, A50, H⟩ := H
  replace H : (some t283) = some r := H
  have A5 := am A50
  clear A50
  obtain rfl := Option.some.inj H
  go_enter Tryd.func9, Tryd.ntmps9
  go_wp2_with (first | ((with_reducible refine gate_callee (f := 5) rfl ?_); refine goesL_ (some 10) rfl rfl Tryd.func5 (by kernel_rfl) rfl #[.slice A0 l0.length c0, .slice A1 l1.length c1] rfl (by (try simp only [List.map_toArray, List.map_cons, List.map_nil]); first | done | rfl | (simp only [List.length_drop, List.length_take]; rfl)) ?_; (with_reducible refine (impl_StemFill.calls k _ _ l0 _ _ l1 t279 true _ ?side1 ?side2 ?side3 ?side4 A3.out).mono ?_); (case side1 => exact cu HR0.out); (case side2 => exact HC0.out); (case side3 => exact cu HR1.out); (case side4 => exact HC1.out); rintro e w6 ⟨v281, rfl, ho0, hb⟩; refine ⟨_, rfl, ?_⟩; have n0_ := am (Kd.R_lower ho0 (below_size (bu HB.out))); have n1_ := am (below_step (bu HB.out) hb); clear HB; have HO282 := n0_; have HB := n1_; clear n0_ n1_; (try clear hb); (try clear hb2); (try clear hk); (try clear hi); (try clear ho0); obtain ⟨Ao7, co7, eo7⟩ := Kd.R_slice HO282.out; subst eo7) | ((with_reducible refine gate_callee (f := 21) rfl ?_); refine goesL_ (some 17) rfl rfl Tryd.func21 (by kernel_rfl) rfl #[.slice Ao7 t279.length co7, .slice A1 l1.length c1] rfl (by (try simp only [List.map_toArray, List.map_cons, List.map_nil]); first | done | rfl | (simp only [List.length_drop, List.length_take]; rfl)) ?_; (with_reducible refine (impl_changesOf.calls k _ _ t279 _ _ l1 t283 _ ?side1 ?side2 ?side3 ?side4 A5.out).mono ?_); (case side1 => exact cu (Kd.R_reads' HO282.out).2.2); (case side2 => exact (Kd.R_reads' HO282.out).2.1); (case side3 => repeat (first | exact (Kd.C_below HR1.out HB.out) | (with_reducible refine Kd.C_alloc ?_ _) | (with_reducible refine Kd.C_drewN ?_ _) | (with_reducible refine Kd.C_drew ?_))); (case side4 => exact HC1.out); rintro e w' ⟨rfl, ⟨nd, rfl⟩⟩; refine ⟨_, rfl, ?_⟩))
  go_ret
  exact ⟨by first | rfl | (simp [errW_none, errW_some] <;> rfl) | (simp [*, errW_none, errW_some] <;> rfl), bu HB.out⟩
 ·replace c4 := Bool.eq_false_iff.mpr c4
  subst c4
  have H1 : (some (-1)) = some r := by rw [if_neg (show ¬ (false = true) by decide)] at H; exact H
  clear H
  have H := H1
  clear H1
  obtain rfl := Option.some.inj H
  go_enter Tryd.func9, Tryd.ntmps9
  go_wp2_with (first | ((with_reducible refine gate_callee (f := 5) rfl ?_); refine goesL_ (some 10) rfl rfl Tryd.func5 (by kernel_rfl) rfl #[.slice A0 l0.length c0, .slice A1 l1.length c1] rfl (by (try simp only [List.map_toArray, List.map_cons, List.map_nil]); first | done | rfl | (simp only [List.length_drop, List.length_take]; rfl)) ?_; (with_reducible refine (impl_StemFill.calls k _ _ l0 _ _ l1 t279 false _ ?side1 ?side2 ?side3 ?side4 A3.out).mono ?_); (case side1 => exact cu HR0.out); (case side2 => exact HC0.out); (case side3 => exact cu HR1.out); (case side4 => exact HC1.out); rintro e w8 ⟨v281, rfl, ho0, hb⟩; refine ⟨_, rfl, ?_⟩; have n0_ := am (Kd.R_lower ho0 (below_size (bu HB.out))); have n1_ := am (below_step (bu HB.out) hb); clear HB; have HO282 := n0_; have HB := n1_; clear n0_ n1_; (try clear hb); (try clear hb2); (try clear hk); (try clear hi); (try clear ho0)))
  go_ret
  exact ⟨by first | rfl | (simp [errW_none, errW_some] <;> rfl) | (simp [*, errW_none, errW_some] <;> rfl), bu HB.out⟩

/-! ### laws_lost: function 10 -/
def laws_lost.f (a0 : ByteArray) : Option (Bool) := if (a0.size : Int) > 0 then (if 0 < (a0.size : Int) then (some ((bt a0 0) == 63)) else (none)) else (some false)
set_option maxHeartbeats 8000000 in
set_option maxRecDepth 100000 in
theorem laws_lost.calls (a0 : ByteArray) (r : Bool) (w : World) (h : laws_lost.f a0 = some r) :
  Calls Tryd.prog 10 #[.string a0] w fun e w' => e = .returned (.bool r) ∧ Drawn0 w w' := by
 have H : (if (a0.size : Int) > 0 then (if 0 < (a0.size : Int) then (some ((bt a0 0) == 63)) else (none)) else (some false)) = some r := h
 clear h
 by_cases c2 : (a0.size : Int) > 0
 ·rw [if_pos c2] at H
  have c2b0 : decide (0 < (a0.size : Int)) = true := decide_eq_true c2
  have c2b1 : decide (0 < a0.size) = true := decide_eq_true (by omega)
  clear c2
  by_cases c3 : 0 < (a0.size : Int)
  ·rw [if_pos c3] at H
   have c3b0 : decide (0 < (a0.size : Int)) = true := decide_eq_true c3
   have c3b1 : decide (0 < a0.size) = true := decide_eq_true (by omega)
   clear c3
   obtain rfl := Option.some.inj H
   have p4 : 0 ≤ (0 : Int) := (by omega)
   have q4 : 0 < a0.size := (by have : (0 : Int) < (a0.size : Int) := od; omega)
   have hx4 : ∀ h : 0 < a0.size, ((a0[0]'h).toNat : Int) = bt a0 0 := bt_at a0 0
   clear p4
   have qi4 : (0 < (a0.size : Int)) = True := eq_true (od)
   replace q4 := eq_true q4
   go_enter Tryd.func10, Tryd.ntmps10
   go_wp2
   go_ret
   exact ⟨by first | rfl | (simp; done) | (simp [*]; done), by repeat (first | exact Drawn0.refl _ | apply Drawn0.step)⟩
  ·rw [if_neg c3] at H
   exact absurd H (by simp)
 ·rw [if_neg c2] at H
  have c2b0 : decide (0 < (a0.size : Int)) = false := decide_eq_false c2
  have c2b1 : decide (0 < a0.size) = false := decide_eq_false (by omega)
  clear c2
  obtain rfl := Option.some.inj H
  go_enter Tryd.func10, Tryd.ntmps10
  go_wp2
  go_ret
  exact ⟨by first | rfl | (simp; done) | (simp [*]; done), by repeat (first | exact Drawn0.refl _ | apply Drawn0.step)⟩

end Go.Proofs.YtdodkidnblmheaaDoor.SL
