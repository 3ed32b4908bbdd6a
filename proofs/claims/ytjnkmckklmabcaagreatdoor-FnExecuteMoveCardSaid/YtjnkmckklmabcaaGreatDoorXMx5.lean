-- Made by this session's gprint.py out of the translation. Not trusted: Lean checks it.
import Derived.Test.YtjnkmckklmabcaaGreatDoorShelf
import Derived.Test.YtjnkmckklmabcaaGreatDoorXMx0
import Derived.Test.YtjnkmckklmabcaaGreatDoorXMx2
import Derived.Test.YtjnkmckklmabcaaGreatDoorXMx3
import Derived.Test.YtjnkmckklmabcaaGreatDoorXMx4
namespace Go.Proofs.YtjnkmckklmabcaaGreatDoor.XM
open Go.RowKit Go.Proofs.YtjnkmckklmabcaaGreatDoorW.PrintWords Go.Proofs.YtjnkmckklmabcaaGreatDoorW.PrintLast Go.Proofs.YtjnkmckklmabcaaGreatDoorW.PrintMore
attribute [local go_sem] max2_int min2_int max_two min_two max_three min_three max_four min_four   -- for this text's walks alone
set_option linter.unusedVariables false
set_option linter.unusedSimpArgs false

/-! ### stringslite_CutPrefix: function 211 -/
def stringslite_CutPrefix.f (a0 : ByteArray) (a1 : ByteArray) : Option (ByteArray × Bool) := (stringslite_HasPrefix.f a0 a1).bind fun t116 => (if t116 = true then (if 0 ≤ (a1.size : Int) then (if (a1.size : Int) ≤ (a0.size : Int) then (some (a0.extract ((a1.size : Int) : Int).toNat a0.size, true)) else (none)) else (none)) else (some (a0, false)))
set_option maxHeartbeats 8000000 in
set_option maxRecDepth 100000 in
theorem stringslite_CutPrefix.calls (a0 : ByteArray) (a1 : ByteArray) (r1 : ByteArray) (r2 : Bool) (w : World) (h : stringslite_CutPrefix.f a0 a1 = some (r1, r2)) :
  Calls Tryz.prog 211 #[.string a0, .string a1] w fun e w' => e = .returned (.tuple #[.string r1, .bool r2]) ∧ Drawn0 w w' := by
 have H : ((stringslite_HasPrefix.f a0 a1).bind fun t116 => (if t116 = true then (if 0 ≤ (a1.size : Int) then (if (a1.size : Int) ≤ (a0.size : Int) then (some (a0.extract ((a1.size : Int) : Int).toNat a0.size, true)) else (none)) else (none)) else (some (a0, false)))) = some (r1, r2) := h
 clear h
 replace H := Option.bind_eq_some_iff.mp H
 obtain ⟨t116, A30, H⟩ := H
 replace H : (if t116 = true then (if 0 ≤ (a1.size : Int) then (if (a1.size : Int) ≤ (a0.size : Int) then (some (a0.extract ((a1.size : Int) : Int).toNat a0.size, true)) else (none)) else (none)) else (some (a0, false))) = some (r1, r2) := H
 have A3 := am A30
 clear A30
 by_cases c4 : t116 = true
 ·subst c4
  have H1 : (if 0 ≤ (a1.size : Int) then (if (a1.size : Int) ≤ (a0.size : Int) then (some (a0.extract ((a1.size : Int) : Int).toNat a0.size, true)) else (none)) else (none)) = some (r1, r2) := by rw [if_pos rfl] at H; exact H
  clear H
  have H := H1
  clear H1
  by_cases c5 : 0 ≤ (a1.size : Int)
  ·rw [if_pos c5] at H
   have c5b0 := eq_true c5
   have c5b1 : decide (0 ≤ (a1.size : Int)) = true := decide_eq_true c5
   clear c5
   by_cases c6 : (a1.size : Int) ≤ (a0.size : Int)
   ·rw [if_pos c6] at H
    have c6b0 := eq_true c6
    have c6b1 : decide ((a1.size : Int) ≤ (a0.size : Int)) = true := decide_eq_true c6
    clear c6
    simp only [Option.some.injEq, Prod.mk.injEq] at H
    obtain ⟨rfl, rfl⟩ := H
    go_enter Tryz.func211, Tryz.ntmps211
    go_wp2_with (first | ((with_reducible refine gate_callee (f := 222) rfl ?_); refine goesL_ (some 8) rfl rfl Tryz.func222 (by kernel_rfl) rfl #[.string a0, .string a1] rfl (by (try simp only [List.map_toArray, List.map_cons, List.map_nil]); first | done | rfl | (simp only [List.length_drop, List.length_take]; rfl)) ?_; (with_reducible refine (stringslite_HasPrefix.calls a0 a1 true _ A3.out).mono ?_); rintro e w' ⟨rfl, ⟨nd, rfl⟩⟩; refine ⟨_, rfl, ?_⟩))
    go_ret2
    exact ⟨by first | rfl | (simp; done) | (simp [*]; done), by repeat (first | exact Drawn0.refl _ | apply Drawn0.step)⟩
   ·rw [if_neg c6] at H
    exact absurd H (by simp)
  ·rw [if_neg c5] at H
   exact absurd H (by simp)
 ·replace c4 := Bool.eq_false_iff.mpr c4
  subst c4
  have H1 : (some (a0, false)) = some (r1, r2) := by rw [if_neg (show ¬ (false = true) by decide)] at H; exact H
  clear H
  have H := H1
  clear H1
  simp only [Option.some.injEq, Prod.mk.injEq] at H
  obtain ⟨rfl, rfl⟩ := H
  go_enter Tryz.func211, Tryz.ntmps211
  go_wp2_with (first | ((with_reducible refine gate_callee (f := 222) rfl ?_); refine goesL_ (some 8) rfl rfl Tryz.func222 (by kernel_rfl) rfl #[.string a0, .string a1] rfl (by (try simp only [List.map_toArray, List.map_cons, List.map_nil]); first | done | rfl | (simp only [List.length_drop, List.length_take]; rfl)) ?_; (with_reducible refine (stringslite_HasPrefix.calls a0 a1 false _ A3.out).mono ?_); rintro e w' ⟨rfl, ⟨nd, rfl⟩⟩; refine ⟨_, rfl, ?_⟩))
  go_ret2
  exact ⟨by first | rfl | (simp; done) | (simp [*]; done), by repeat (first | exact Drawn0.refl _ | apply Drawn0.step)⟩

/-! ### strings_CutPrefix: function 196 -/
def strings_CutPrefix.f (a0 : ByteArray) (a1 : ByteArray) : Option (ByteArray × Bool) := (stringslite_CutPrefix.f a0 a1).bind fun bt117 => (some (bt117.1, bt117.2))
set_option maxHeartbeats 8000000 in
set_option maxRecDepth 100000 in
theorem strings_CutPrefix.calls (a0 : ByteArray) (a1 : ByteArray) (r1 : ByteArray) (r2 : Bool) (w : World) (h : strings_CutPrefix.f a0 a1 = some (r1, r2)) :
  Calls Tryz.prog 196 #[.string a0, .string a1] w fun e w' => e = .returned (.tuple #[.string r1, .bool r2]) ∧ Drawn0 w w' := by
 have H : ((stringslite_CutPrefix.f a0 a1).bind fun bt117 => (some (bt117.1, bt117.2))) = some (r1, r2) := h
 clear h
 replace H := Option.bind_eq_some_iff.mp H
 obtain ⟨⟨t117, t118⟩, A30, H⟩ := H
 replace H : (some (t117, t118)) = some (r1, r2) := H
 have A3 := am A30
 clear A30
 simp only [Option.some.injEq, Prod.mk.injEq] at H
 obtain ⟨rfl, rfl⟩ := H
 go_enter Tryz.func196, Tryz.ntmps196
 go_wp2_with (first | ((with_reducible refine gate_callee (f := 211) rfl ?_); refine goesL_ (some 8) rfl rfl Tryz.func211 (by kernel_rfl) rfl #[.string a0, .string a1] rfl (by (try simp only [List.map_toArray, List.map_cons, List.map_nil]); first | done | rfl | (simp only [List.length_drop, List.length_take]; rfl)) ?_; (with_reducible refine (stringslite_CutPrefix.calls a0 a1 t117 t118 _ A3.out).mono ?_); rintro e w' ⟨rfl, ⟨nd, rfl⟩⟩; refine ⟨_, rfl, ?_⟩))
 go_ret2
 exact ⟨by first | rfl | (simp; done) | (simp [*]; done), by repeat (first | exact Drawn0.refl _ | apply Drawn0.step)⟩

/-! ### impl_wordNumber: function 179 -/
mutual
def impl_wordNumber.j0 : Nat → ByteArray → Bool → Bool → Option (Int)
 | 0, _, _, _ => none
 | k + 1, x3, x4, x19 => if x19 = true then (some 999) else (impl_wordNumber.l0 k x3 x4 0 (x3.size : Int) 0)
def impl_wordNumber.l0 : Nat → ByteArray → Bool → Int → Int → Int → Option (Int)
 | 0, _, _, _, _, _ => none
 | k + 1, x3, x4, x5, x21, x22 => if x22 < x21 then (if 0 ≤ x22 then (if x22 < (x3.size : Int) then (if (bt x3 x22) < 48 then (some 999) else (if (bt x3 x22) > 57 then (some 999) else (impl_wordNumber.l0 k x3 x4 (wrap64 ((wrap64 (10 * x5)) + (((bt x3 x22) - 48) % 256))) x21 (wrap64 (x22 + 1))))) else (none)) else (none)) else (if x4 = true then (some (wrap64 (-x5))) else (some x5))
end
def impl_wordNumber.f (k : Nat) (a0 : ByteArray) : Option (Int) := (strings_CutPrefix.f a0 (⟨#[45]⟩ : ByteArray)).bind fun bt119 => (if (bt119.1.size : Int) < 1 then (impl_wordNumber.j0 k bt119.1 bt119.2 true) else (impl_wordNumber.j0 k bt119.1 bt119.2 (decide ((bt119.1.size : Int) > 2))))
theorem impl_wordNumber.mono_l : ∀ k, (∀ y0 y1 y2, LeO (impl_wordNumber.j0 k y0 y1 y2) (impl_wordNumber.j0 (k + 1) y0 y1 y2)) ∧ (∀ y0 y1 y2 y3 y4, LeO (impl_wordNumber.l0 k y0 y1 y2 y3 y4) (impl_wordNumber.l0 (k + 1) y0 y1 y2 y3 y4))
 | 0 => ⟨fun _ _ _ r h => by simp [impl_wordNumber.j0] at h, fun _ _ _ _ _ r h => by simp [impl_wordNumber.l0] at h⟩
 | k + 1 => by
  obtain ⟨ih0, ih1⟩ := impl_wordNumber.mono_l k
  refine ⟨?_, ?_⟩
  ·intro y0 y1 y2
   unfold impl_wordNumber.j0
   repeat' first
   | (with_reducible exact ih0 _ _ _)
   | (with_reducible exact ih1 _ _ _ _ _)
   | (with_reducible exact LeO.refl _)
   | (with_reducible exact LeO.none _)
   | (with_reducible refine LeO.ite ?_ ?_)
   | (with_reducible refine LeO.bind ?_ (fun _ => ?_))
   | exact ih0 _ _ _
   | exact ih1 _ _ _ _ _
   | exact LeO.none _
   | refine LeO.ite ?_ ?_
   | refine LeO.bind ?_ (fun _ => ?_)
  ·intro y0 y1 y2 y3 y4
   unfold impl_wordNumber.l0
   repeat' first
   | (with_reducible exact ih0 _ _ _)
   | (with_reducible exact ih1 _ _ _ _ _)
   | (with_reducible exact LeO.refl _)
   | (with_reducible exact LeO.none _)
   | (with_reducible refine LeO.ite ?_ ?_)
   | (with_reducible refine LeO.bind ?_ (fun _ => ?_))
   | exact ih0 _ _ _
   | exact ih1 _ _ _ _ _
   | exact LeO.none _
   | refine LeO.ite ?_ ?_
   | refine LeO.bind ?_ (fun _ => ?_)
theorem impl_wordNumber.mono : ∀ a0 k, LeO (impl_wordNumber.f k a0) (impl_wordNumber.f (k + 1) a0) := by
 intro a0 k
 obtain ⟨ih0, ih1⟩ := impl_wordNumber.mono_l k
 unfold impl_wordNumber.f
 repeat' first
   | (with_reducible exact ih0 _ _ _)
   | (with_reducible exact ih1 _ _ _ _ _)
   | (with_reducible exact LeO.refl _)
   | (with_reducible exact LeO.none _)
   | (with_reducible refine LeO.ite ?_ ?_)
   | (with_reducible refine LeO.bind ?_ (fun _ => ?_))
   | exact ih0 _ _ _
   | exact ih1 _ _ _ _ _
   | exact LeO.none _
   | refine LeO.ite ?_ ?_
   | refine LeO.bind ?_ (fun _ => ?_)
set_option maxHeartbeats 8000000 in
set_option maxRecDepth 100000 in
theorem impl_wordNumber.calls (k : Nat) (a0 : ByteArray) (r : Int) (w : World) (h : impl_wordNumber.f k a0 = some r) :
  Calls Tryz.prog 179 #[.string a0] w fun e w' => e = .returned (.int .i64 r) ∧ Drawn0 w w' := by
 have H : ((strings_CutPrefix.f a0 (⟨#[45]⟩ : ByteArray)).bind fun bt119 => (if (bt119.1.size : Int) < 1 then (impl_wordNumber.j0 k bt119.1 bt119.2 true) else (impl_wordNumber.j0 k bt119.1 bt119.2 (decide ((bt119.1.size : Int) > 2))))) = some r := h
 clear h
 replace H := Option.bind_eq_some_iff.mp H
 obtain ⟨⟨t119, t120⟩, A20, H⟩ := H
 replace H : (if (t119.size : Int) < 1 then (impl_wordNumber.j0 k t119 t120 true) else (impl_wordNumber.j0 k t119 t120 (decide ((t119.size : Int) > 2)))) = some r := H
 have A2 := am A20
 clear A20
 have HC3 := am H
 clear H
 go_enter Tryz.func179, Tryz.ntmps179
 go_upto_region 2 with (first | ((with_reducible refine gate_callee (f := 196) rfl ?_); refine goesL_ (some 9) rfl rfl Tryz.func196 (by kernel_rfl) rfl #[.string a0, .string (⟨#[45]⟩ : ByteArray)] rfl (by (try simp only [List.map_toArray, List.map_cons, List.map_nil]); first | done | rfl | (simp only [List.length_drop, List.length_take]; rfl)) ?_; (with_reducible refine (strings_CutPrefix.calls a0 (⟨#[45]⟩ : ByteArray) t119 t120 _ A2.out).mono ?_); rintro e w' ⟨rfl, ⟨nd, rfl⟩⟩; refine ⟨_, rfl, ?_⟩))
 (try simp only [Act.put, sA, sZ, sS])
 go_cut [19] (fun v19 wc => ∃ (kq : Nat) (x19_2 : Bool), v19 = .bool x19_2 ∧ Aside0 (impl_wordNumber.j0 kq t119 t120 x19_2 = some r) ∧ Aside0 (kq ≤ k) ∧ Drawn0 w wc)
 case first =>
  have H := HC3.out
  clear HC3
  by_cases c4 : (t119.size : Int) < 1
  ·rw [if_pos c4] at H
   have c4b0 : decide ((t119.size : Int) < 1) = true := decide_eq_true c4
   have c4b1 : decide (t119.size < 1) = true := decide_eq_true (by omega)
   clear c4
   (first | rw [c4b0] | (simp only [i64_w, i32_w]; rw [c4b0]) | skip)
   have H' := am H
   clear H
   go_wp2
   go_meet
   case rel => exact ⟨_, (true), (by first | rfl | (simp; done) | (simp [*]; done)), H', ⟨by first | omega | exact Nat.le_refl _⟩, by repeat (first | exact Drawn0.refl _ | apply Drawn0.step)⟩
  ·rw [if_neg c4] at H
   have c4b0 : decide ((t119.size : Int) < 1) = false := decide_eq_false c4
   have c4b1 : decide (t119.size < 1) = false := decide_eq_false (by omega)
   clear c4
   (first | rw [c4b0] | (simp only [i64_w, i32_w]; rw [c4b0]) | skip)
   have H' := am H
   clear H
   go_wp2
   go_meet
   case rel => exact ⟨_, (decide ((t119.size : Int) > 2)), (by first | rfl | (simp; done) | (simp [*]; done)), H', ⟨by first | omega | exact Nat.le_refl _⟩, by repeat (first | exact Drawn0.refl _ | apply Drawn0.step)⟩
 case rest =>
  clear HC3
  try clear c1
  try clear p2
  try clear c4
  try clear c4b0
  try clear c4b1
  obtain ⟨kq, x19_2, rfl, HA, HJ2, ⟨mc2, rfl⟩⟩ := hcut
  cases kq with
  | zero => exact absurd HA.out (by simp [impl_wordNumber.j0])
  | succ kj2 =>
   have H := HA.out
   clear HA
   simp only [impl_wordNumber.j0] at H
   by_cases c5 : x19_2 = true
   ·subst c5
    have H1 : (some 999) = some r := by rw [if_pos rfl] at H; exact H
    clear H
    have H := H1
    clear H1
    obtain rfl := Option.some.inj H
    go_wp2
    go_ret
    exact ⟨by first | rfl | (simp; done) | (simp [*]; done), by repeat (first | exact Drawn0.refl _ | apply Drawn0.step)⟩
   ·replace c5 := Bool.eq_false_iff.mpr c5
    subst c5
    have H1 : (impl_wordNumber.l0 kj2 t119 t120 0 (t119.size : Int) 0) = some r := by rw [if_neg (show ¬ (false = true) by decide)] at H; exact H
    clear H
    have H := H1
    clear H1
    have H' := am H
    clear H
    go_wp2
    go_loopg [5, 22] kj2 (fun kq v5 v22 w' => ∃ (x5_2 : Int) (x22_2 : Int), v5 = .int .i64 x5_2 ∧ v22 = .int .i64 x22_2 ∧ Aside0 (impl_wordNumber.l0 kq t119 t120 x5_2 (t119.size : Int) x22_2 = some r) ∧ Aside0 (kq ≤ kj2) ∧ Drawn0 w w')
    case atStart => exact ⟨(0), (0), (by first | rfl | (simp; done) | (simp [*]; done)), (by first | rfl | (simp; done) | (simp [*]; done)), H', ⟨Nat.le_refl _⟩, by repeat (first | exact Drawn0.refl _ | apply Drawn0.step)⟩
    case round =>
     clear H'
     try clear c1
     try clear c2
     try clear p2
     try clear c4
     try clear c4b0
     try clear c4b1
     try clear c5
     try clear p2
     obtain ⟨x5_2, x22_2, rfl, rfl, HA, HK2, ⟨m2, rfl⟩⟩ := hrel
     cases gk with
     | zero => exact absurd HA.out (by simp [impl_wordNumber.l0])
     | succ k2 =>
      have H := HA.out
      clear HA
      simp only [impl_wordNumber.l0] at H
      by_cases c6 : x22_2 < (t119.size : Int)
      ·rw [if_pos c6] at H
       have c6b0 : decide (x22_2 < (t119.size : Int)) = true := decide_eq_true c6
       clear c6
       by_cases c7 : 0 ≤ x22_2
       ·rw [if_pos c7] at H
        have c7b0 : decide (0 ≤ x22_2) = true := decide_eq_true c7
        clear c7
        by_cases c8 : x22_2 < (t119.size : Int)
        ·rw [if_pos c8] at H
         have c8b0 : decide (x22_2 < (t119.size : Int)) = true := decide_eq_true c8
         clear c8
         by_cases c10 : (bt t119 x22_2) < 48
         ·rw [if_pos c10] at H
          have c10b0 : decide ((bt t119 x22_2) < 48) = true := decide_eq_true c10
          clear c10
          obtain rfl := Option.some.inj H
          have p9 : 0 ≤ (x22_2 : Int) := od
          have q9 : x22_2 < (t119.size : Int) := od
          have hx9 := bt_at t119 x22_2
          replace p9 := eq_true p9
          replace q9 := eq_true q9
          go_wp2
          go_ret
          exact ⟨by first | rfl | (simp; done) | (simp [*]; done), by repeat (first | exact Drawn0.refl _ | apply Drawn0.step)⟩
         ·rw [if_neg c10] at H
          have c10b0 : decide ((bt t119 x22_2) < 48) = false := decide_eq_false c10
          clear c10
          by_cases c12 : (bt t119 x22_2) > 57
          ·rw [if_pos c12] at H
           have c12b0 : decide (57 < (bt t119 x22_2)) = true := decide_eq_true c12
           clear c12
           obtain rfl := Option.some.inj H
           have p9 : 0 ≤ (x22_2 : Int) := od
           have q9 : x22_2 < (t119.size : Int) := od
           have hx9 := bt_at t119 x22_2
           replace p9 := eq_true p9
           replace q9 := eq_true q9
           have p11 : 0 ≤ (x22_2 : Int) := od
           have q11 : x22_2 < (t119.size : Int) := od
           have hx11 := bt_at t119 x22_2
           replace p11 := eq_true p11
           replace q11 := eq_true q11
           go_wp2
           go_ret
           exact ⟨by first | rfl | (simp; done) | (simp [*]; done), by repeat (first | exact Drawn0.refl _ | apply Drawn0.step)⟩
          ·rw [if_neg c12] at H
           have c12b0 : decide (57 < (bt t119 x22_2)) = false := decide_eq_false c12
           clear c12
           have H' := am H
           clear H
           have p9 : 0 ≤ (x22_2 : Int) := od
           have q9 : x22_2 < (t119.size : Int) := od
           have hx9 := bt_at t119 x22_2
           replace p9 := eq_true p9
           replace q9 := eq_true q9
           have p11 : 0 ≤ (x22_2 : Int) := od
           have q11 : x22_2 < (t119.size : Int) := od
           have hx11 := bt_at t119 x22_2
           replace p11 := eq_true p11
           replace q11 := eq_true q11
           have p13 : 0 ≤ (x22_2 : Int) := od
           have q13 : x22_2 < (t119.size : Int) := od
           have hx13 := bt_at t119 x22_2
           replace p13 := eq_true p13
           replace q13 := eq_true q13
           go_wp2
           go_roundg k2
           case measure => have := HJ2.out; have := HK2.out; omega
           case rel => exact ⟨(wrap64 ((wrap64 (10 * x5_2)) + (((bt t119 x22_2) - 48) % 256))), (wrap64 (x22_2 + 1)), (by first | rfl | (simp; done) | (simp [*]; done)), (by first | rfl | (simp; done) | (simp [*]; done)), H', ⟨by have := HJ2.out; have := HK2.out; omega⟩, by repeat (first | exact Drawn0.refl _ | apply Drawn0.step)⟩
        ·rw [if_neg c8] at H
         exact absurd H (by simp)
       ·rw [if_neg c7] at H
        exact absurd H (by simp)
      ·rw [if_neg c6] at H
       have c6b0 : decide (x22_2 < (t119.size : Int)) = false := decide_eq_false c6
       clear c6
       by_cases c14 : t120 = true
       ·subst c14
        have H1 : (some (wrap64 (-x5_2))) = some r := by rw [if_pos rfl] at H; exact H
        clear H
        have H := H1
        clear H1
        obtain rfl := Option.some.inj H
        go_wp2
        go_ret
        exact ⟨by first | rfl | (simp; done) | (simp [*]; done), by repeat (first | exact Drawn0.refl _ | apply Drawn0.step)⟩
       ·replace c14 := Bool.eq_false_iff.mpr c14
        subst c14
        have H1 : (some x5_2) = some r := by rw [if_neg (show ¬ (false = true) by decide)] at H; exact H
        clear H
        have H := H1
        clear H1
        obtain rfl := Option.some.inj H
        go_wp2
        go_ret
        exact ⟨by first | rfl | (simp; done) | (simp [*]; done), by repeat (first | exact Drawn0.refl _ | apply Drawn0.step)⟩

/-! ### MelodyText, by hand -/
theorem infoMS : (Tryz.prog.info? 9).map (fun i => (i.zero, i.size, i.bytes)) = some (some (.string ⟨#[]⟩), 1, 16) := by kernel_rfl
def ttx (t : S74) : ByteArray := (impl_Tone_text.f t.f0 t.f1).getD ⟨#[]⟩
def mjoin (xs : List ByteArray) : ByteArray := ⟨(Lib.join (xs.map (·.data.toList)) [32]).toArray⟩
def impl_MelodyText.f (n : Nat) (l0 : List S74) : Option ByteArray := (impl_MelodyValid.f n l0).bind fun ok => some (if ok = true then mjoin (l0.map ttx) else ⟨#[]⟩)
theorem impl_MelodyText.mono : ∀ a0 n, LeO (impl_MelodyText.f n a0) (impl_MelodyText.f (n + 1) a0) := by
 intro a0 n
 unfold impl_MelodyText.f
 exact LeO.bind (impl_MelodyValid.mono _ _) (fun _ => LeO.refl _)
theorem text_all : ∀ m, m < 21 → ∀ b : Bool, (impl_Tone_text.f ((m : Nat) : Int) b).isSome = true ∧ ((impl_Tone_text.f ((m : Nat) : Int) b).getD ⟨#[]⟩).size ≤ 3 := by decide +kernel
theorem text_some {a : Int} {b : Bool} (h0 : 0 ≤ a) (h1 : a ≤ 20) : impl_Tone_text.f a b = some ((impl_Tone_text.f a b).getD ⟨#[]⟩) ∧ ((impl_Tone_text.f a b).getD ⟨#[]⟩).size ≤ 3 := by
 obtain ⟨m, rfl⟩ := Int.eq_ofNat_of_zero_le h0
 obtain ⟨h2, h3⟩ := text_all m (by omega) b
 obtain ⟨v, hv⟩ := Option.isSome_iff_exists.1 h2
 exact ⟨by rw [hv]; rfl, h3⟩
theorem rdMt_at (l : List S74) (i : Nat) (h : i < l.length) : rd_T74 l (i : Int) = l[i] := by
 simp [rd_T74, List.getD_eq_getElem?_getD, h]
theorem mv_tone {s : Int} {b : Bool} (h : impl_Tone_valid.f s b = some true) : 0 ≤ s ∧ s ≤ 20 := by
 unfold impl_Tone_valid.f at h
 by_cases h0 : 0 ≤ s
 ·by_cases h1 : s ≤ 20
  ·exact ⟨h0, h1⟩
  ·simp [h0, h1] at h
 ·simp [h0] at h
theorem mv_l0 : ∀ (k : Nat) (l : List S74) (i : Nat), i ≤ l.length → l.length ≤ 24 → impl_MelodyValid.l0 k l (l.length : Int) (i : Int) = some true → ∀ j (h0 : j < l.length), i ≤ j → 0 ≤ l[j].f0 ∧ l[j].f0 ≤ 20 := by
 intro k
 induction k with
 | zero => intro l i hi hl h; simp [impl_MelodyValid.l0] at h
 | succ k ih =>
  intro l i hi hl h j h0 hij
  have hlt : i < l.length := by omega
  simp only [impl_MelodyValid.l0] at h
  rw [if_pos (by omega), if_pos (by omega), if_pos (by omega), rdMt_at l i hlt] at h
  obtain ⟨v, hv, h⟩ := Option.bind_eq_some_iff.mp h
  cases v with
  | false => rw [if_neg (by decide)] at h; exact absurd h (by simp)
  | true =>
   rw [if_pos rfl, show wrap64 ((i : Int) + 1) = ((i + 1 : Nat) : Int) by unfold wrap64; omega] at h
   by_cases e : j = i
   ·subst e
    exact mv_tone hv
   ·exact ih l (i + 1) (by omega) hl h j h0 (by omega)
theorem mv_facts {k : Nat} {l : List S74} (h : impl_MelodyValid.f k l = some true) : l.length ≤ 24 ∧ ∀ t ∈ l, 0 ≤ t.f0 ∧ t.f0 ≤ 20 := by
 unfold impl_MelodyValid.f at h
 by_cases hl : (l.length : Int) > 24
 ·rw [if_pos hl] at h
  exact absurd h (by simp)
 ·rw [if_neg hl] at h
  refine ⟨by omega, fun t ht => ?_⟩
  obtain ⟨j, hj, rfl⟩ := List.getElem_of_mem ht
  exact mv_l0 k l 0 (Nat.zero_le _) (by omega) h j hj (Nat.zero_le _)
theorem mt_lens : ∀ (xs : List (List UInt8)), (∀ x ∈ xs, x.length ≤ 3) → Lib.lens xs ≤ 3 * xs.length
 | [], _ => by simp [Lib.lens]
 | x :: xs, h => by
  have ih := mt_lens xs (fun z hz => h z (List.mem_cons_of_mem _ hz))
  have := h x (List.mem_cons_self ..)
  simp only [Lib.lens, List.map_cons, List.sum_cons, List.length_cons] at ih ⊢
  omega
theorem mt_join (xs : List (List UInt8)) (h : ∀ x ∈ xs, x.length ≤ 3) : (Lib.join xs [32]).length ≤ 4 * xs.length := by
 cases xs with
 | nil => simp [Lib.join_nil]
 | cons x r =>
  have h1 := h x (List.mem_cons_self ..)
  have h2 := mt_lens r (fun z hz => h z (List.mem_cons_of_mem _ hz))
  rw [Lib.join_cons, List.length_append, Lib.joinTail_length, List.length_cons, List.length_cons, List.length_nil]
  omega
theorem mt_small (l : List S74) (h : ∀ t ∈ l, 0 ≤ t.f0 ∧ t.f0 ≤ 20) : (Lib.join ((l.map ttx).map (·.data.toList)) [32]).length ≤ 4 * l.length := by
 have := mt_join ((l.map ttx).map (·.data.toList)) (by
  intro x hx
  obtain ⟨b, hb, rfl⟩ := List.mem_map.1 hx
  obtain ⟨t, ht, rfl⟩ := List.mem_map.1 hb
  exact (text_some (h t ht).1 (h t ht).2).2)
 rw [List.length_map, List.length_map] at this
 exact this
theorem mt_strs {w : World} {g n : Nat} {xs : List ByteArray} (h : Kd.string.C w (some ⟨g, 0, none⟩) n xs) (hn : n = xs.length) (j : Nat) (x : ByteArray) (hx : xs[j]? = some x) : w.cell? ⟨g, 0 + j, none⟩ = some (.string x) := by
 obtain ⟨hj, rfl⟩ := List.getElem?_eq_some_iff.1 hx
 obtain ⟨ad, e, hc⟩ := Kd.at_string h (j : Int) (by omega) (by omega)
 obtain rfl : (⟨g, 0, none⟩ : Addr) = ad := by injection e
 rw [Int.toNat_natCast] at hc
 rw [Nat.zero_add, ← add_plain, hc]
 simp [rdOf, List.getD_eq_getElem?_getD, hj]
theorem mt_empty {α : Type} (d : Kd α) (e : Nat) {W : World} {g base : Nat} (ok : Nat → Prop) (hok : ok g) (h : W.heap[g]? = some (.cells #[] e (0, 0))) (hb : base ≤ g) : d.R e W base ok (.slice (some ⟨g, 0, none⟩) 0 0) ([] : List α) :=
 ⟨fun k hk => by
  simp [Value.ownBlock] at hk
  subst hk
  exact hok, [], ⟨by simp, .inr ⟨g, 0, #[], rfl, hb, h, Nat.le_refl _, by simp [maxLen], by simp, by simp⟩⟩, Reps.none _ _⟩
theorem mt_grown {w w1 : World} {base : Nat} {ok : Nat → Prop} {v : Value} {xs : List ByteArray} (HO : Kd.R Kd.string 9 w base ok v xs) (hg : w.grownBy w1 v.ownBlock) : ∀ {ts : List S74} {p : Option Addr}, IsList w p ts → IsList w1 p ts
 | [], _, h => h
 | t :: ts, p, h => by
  obtain ⟨g, q, rfl, hk, hr⟩ := h
  exact ⟨g, q, rfl, blk_grown hk hg (Kd.R_ne HO hk (by decide)), mt_grown HO hg hr⟩
set_option maxHeartbeats 8000000 in
set_option maxRecDepth 100000 in
theorem melText_yes (n : Nat) (A0 : Option Addr) (c0 : Nat) (l0 : List S74) (w : World) (hr0 : Kd.C k74 w A0 l0.length l0) (hc0 : l0.length ≤ c0) (hTL : TabL w) (h : impl_MelodyValid.f n l0 = some true) :
  Calls Tryz.prog 26 #[.slice A0 l0.length c0] w fun e w' => e = .returned (.string (mjoin (l0.map ttx))) ∧ Below w.heap.size w w' := by
 obtain ⟨hl, hf⟩ := mv_facts h
 have hu1 := Tryz.underlying84
 have hu2 := Tryz.underlying74
 have HR0 := am hr0
 have HC0 := am hc0
 have HTL := am hTL
 have H := am h
 have HF := am hf
 clear hr0 hc0 hTL h hf
 go_enter Tryz.func26, Tryz.ntmps26
 go_wp2_with fail
 refine (impl_MelodyValid.calls n A0 c0 l0 true _ HR0.out HC0.out H.out).mono ?_
 rintro e w1 ⟨rfl, hb⟩
 have HB1 := am hb
 have HS1 := am hb.size
 clear hb
 go_wp2_with fail
 have HZ1 := am (blk_new w1 (.cells #[] 9))
 have HB2 := am (below_alloc HB1.out (.cells #[] 9))
 refine (linked_any A0 c0 l0 _ (Kd.C_below HR0.out HB2.out) HC0.out (by omega)).mono ?_
 rintro e w2 ⟨p, rfl, hL, hb⟩
 have HB3 := am (below_step HB2.out hb)
 have HL1 := am hL
 have HZ2 := am (blk_below HZ1.out hb)
 clear hb hL HB1 HB2 HZ1
 go_wp2_with fail
 go_loopg [3, 4] l0.length (fun kq v3 v4 w' => ∃ (i : Nat) (p : Option Addr), v4 = .pointer p ∧ Aside0 (i ≤ l0.length ∧ kq = l0.length - i) ∧ Aside0 (IsList w' p (l0.drop i)) ∧ Aside0 (Kd.R Kd.string 9 w' w.heap.size (fun _ => True) v3 ((l0.take i).map ttx)) ∧ Aside0 (Below w.heap.size w w'))
 case atStart => exact ⟨0, p, rfl, ⟨by omega, by omega⟩, ⟨by simpa using HL1.out⟩, ⟨mt_empty _ _ _ trivial HZ2.out HS1.out⟩, HB3⟩
 case round =>
  obtain ⟨i, q, rfl, HI, HL, HO, HB⟩ := hrel
  clear HZ2 HL1 HB3
  by_cases hin : i < l0.length
  ·obtain ⟨t, ht⟩ : ∃ t, t = l0[i] := ⟨_, rfl⟩
   have hL := HL.out
   rw [List.drop_eq_getElem_cons hin, ← ht] at hL
   obtain ⟨g, q', rfl, hg, hR⟩ := hL
   have HT := am (HF.out t (by rw [ht]; exact List.getElem_mem hin))
   have HTT := am (text_some (b := t.f1) HT.out.1 HT.out.2).1
   have HSN := am (show (l0.take (i + 1)).map ttx = (l0.take i).map ttx ++ [ttx t] by rw [List.take_succ_eq_append_getElem hin, List.map_append, ← ht]; rfl)
   have HG0 := am hg
   have HLR := am hR
   have k0 : wr.cell? ⟨g, 0, none⟩ = some (.int .i64 t.f0) := blk_cell hg 0
   have k1 : wr.cell? ⟨g, 1, none⟩ = some (.bool t.f1) := blk_cell hg 1
   obtain ⟨tx, htx⟩ : ∃ tx, tx = ttx t := ⟨_, rfl⟩
   have HTX := am (show impl_Tone_text.f t.f0 t.f1 = some tx by rw [htx]; exact HTT.out)
   rw [← htx] at HSN
   obtain ⟨xs, hxs⟩ : ∃ xs, xs = (l0.take i).map ttx := ⟨_, rfl⟩
   have HXL := am (show xs.length ≤ 24 by rw [hxs, List.length_map, List.length_take]; omega)
   rw [← hxs] at HSN HO
   clear ht hg hR htx hxs HTT HL
   go_wp2_with fail
   refine (impl_Tone_text.calls t.f0 t.f1 tx _ (TabAt.below HTL.out HB.out) HTX.out).mono ?_
   rintro e w5 ⟨rfl, hb⟩
   have HG5 := am (blk_below HG0.out hb)
   have HLR5 := am (IsList.below hb HLR.out)
   have HO5 := am (Kd.R_below HO.out hb)
   have HB5 := am (below_step HB.out hb)
   clear hb HO HB HLR HG0 k0 k1
   go_wp2_with (first | ((with_reducible refine gate_builtin (b := .append) (xs := #[.tmp 17, .tmp 23]) rfl ?_); at_builtin; refine Kd.R_append Kd.string (w0 := w) w.heap.size rfl (.tmp 17) (.tmp 23) 63 9 (.string ⟨#[]⟩) 16 rfl Tryz.underlying63 infoMS rfl (by decide) (by omega) u3 xs tx [.string tx] (fun _ => True) (fun _ => False) rfl rfl ?aP (fun _ hk => hk.elim) ?aF ?aO ?aB ?aS ?aL ?_; (case aP => exact rfl); (case aF => exact (fun _ _ => trivial)); (case aO => exact HO5.out); (case aB => exact HB5.out); (case aS => exact (below_size HB5.out)); (case aL => have := HXL.out; omega); intro v1 w6 ho hb hg hat; have n0 : w6.cell? ⟨g, 2, none⟩ = some (.pointer q') := blk_cell (blk_grown HG5.out hg (Kd.R_ne HO5.out HG5.out (by decide))) 2; have HO6 := am ho; have HB6 := am hb; have HL6 := am (mt_grown HO5.out hg HLR5.out); clear ho hb hg hat))
   go_roundg (l0.length - (i + 1))
   case measure => have := HI.out; omega
   case rel => exact ⟨i + 1, q', rfl, ⟨by omega, rfl⟩, HL6, ⟨by rw [HSN.out]; exact HO6.out⟩, HB6⟩
  ·have ei : i = l0.length := by have := HI.out; omega
   subst ei
   have hL := HL.out
   rw [List.drop_eq_nil_of_le (Nat.le_refl _)] at hL
   obtain rfl : q = none := hL
   have ho := HO.out
   rw [List.take_of_length_le (Nat.le_refl _)] at ho
   by_cases hz : l0.length = 0
   ·obtain ⟨A5, c5, rfl⟩ := Kd.R_slice ho
    obtain rfl : l0 = [] := List.eq_nil_of_length_eq_zero hz
    clear ho
    go_wp2_with fail
    refine (Tryz.strings_Join_none A5 c5 ⟨#[32]⟩ _).mono ?_
    rintro e w9 ⟨rfl, rfl⟩
    go_wp2_with fail
    go_ret
    exact ⟨rfl, HB.out⟩
   ·obtain ⟨g5, c5, rfl, _, hg5, _⟩ := Kd.R_form ho (by rw [List.length_map]; omega)
    have HG9 := am hg5
    have HC9 := am (Kd.R_reads' ho)
    have HSM := am (mt_small l0 HF.out)
    clear ho hg5
    obtain ⟨xs, hxs⟩ : ∃ xs, xs = l0.map ttx := ⟨_, rfl⟩
    have HXL := am (show xs.length = l0.length by rw [hxs, List.length_map])
    rw [← hxs] at HC9 HSM ⊢
    have HXS := am hxs
    clear hxs
    go_wp2_with fail
    refine (Tryz.strings_Join g5 0 c5 xs ⟨#[32]⟩ _ (fun j x hx => mt_strs HC9.out.2.2 rfl j x hx) HG9.out (by have := HXL.out; omega) HC9.out.2.1 (by have := HSM.out; exact Nat.le_trans this (by omega))).mono ?_
    rintro e w9 ⟨rfl, hb9⟩
    have HB9 := am (below_step HB.out hb9)
    clear hb9
    go_wp2_with fail
    go_ret
    exact ⟨by rw [← HXS.out]; rfl, HB9.out⟩
theorem impl_MelodyText.calls (n : Nat) (A0 : Option Addr) (c0 : Nat) (l0 : List S74) (r : ByteArray) (w : World) (hr0 : Kd.C k74 w A0 l0.length l0) (hc0 : l0.length ≤ c0) (hTL : TabL w) (h : impl_MelodyText.f n l0 = some r) :
  Calls Tryz.prog 26 #[.slice A0 l0.length c0] w fun e w' => e = .returned (.string r) ∧ Below w.heap.size w w' := by
 unfold impl_MelodyText.f at h
 obtain ⟨b, hb, h⟩ := Option.bind_eq_some_iff.mp h
 have h := Option.some.inj h
 cases b with
 | true =>
  rw [if_pos rfl] at h
  rw [← h]
  exact melText_yes n A0 c0 l0 w hr0 hc0 hTL hb
 | false =>
  rw [if_neg (by decide)] at h
  rw [← h]
  clear h
  have HR0 := am hr0
  have HC0 := am hc0
  have H := am hb
  clear hr0 hc0 hb hTL
  go_enter Tryz.func26, Tryz.ntmps26
  go_wp2_with fail
  refine (impl_MelodyValid.calls n A0 c0 l0 false _ HR0.out HC0.out H.out).mono ?_
  rintro e w1 ⟨rfl, hb⟩
  have HB1 := am hb
  clear hb
  go_wp2_with fail
  go_ret
  exact ⟨rfl, HB1.out⟩


-- NOT PRINTED: function 79 (stringslite_Cut)

-- INNER impl_allCommands
-- INNER impl_commandFor
end Go.Proofs.YtjnkmckklmabcaaGreatDoor.XM
