-- Made by this session's gprint.py out of the translation. Not trusted: Lean checks it.
import Derived.Test.YtdodkidnblmheaaDoorSLx0
import Derived.Test.YtdodkidnblmheaaDoorSLx1
namespace Go.Proofs.YtdodkidnblmheaaDoor.SL
open Go.RowKit Go.Proofs.YtdodkidnblmheaaDoorW.PrintWords Go.Proofs.YtdodkidnblmheaaDoorW.PrintLast Go.Proofs.YtdodkidnblmheaaDoorW.PrintMore
attribute [local go_sem] max2_int min2_int max_two min_two max_three min_three max_four min_four   -- for this text's walks alone
set_option linter.unusedVariables false
set_option linter.unusedSimpArgs false

/-! ### impl_lostOf: function 24 -/
mutual
def impl_lostOf.j0 : Nat → List ByteArray → Bool → Option (Int × Bool)
 | 0, _, _ => none
 | k + 1, x0, x14 => if x14 = true then (some (0, false)) else (impl_lostOf.l0 k x0 0 x0 (x0.length : Int) 0)
def impl_lostOf.l0 : Nat → List ByteArray → Int → List ByteArray → Int → Int → Option (Int × Bool)
 | 0, _, _, _, _, _ => none
 | k + 1, x0, x4, x15, x16, x17 => if x17 < x16 then (if 0 ≤ x17 then (if x17 < (x15.length : Int) then (if 0 < (x0.length : Int) then (if ((rdOf ByteArray.empty x15 x17).size : Int) = ((rdOf ByteArray.empty x0 0).size : Int) then (if (rdOf ByteArray.empty x15 x17).toList = ([] : List UInt8) then (impl_lostOf.j2 k x0 x4 (rdOf ByteArray.empty x15 x17) x15 x16 x17 true) else (impl_lostOf.j2 k x0 x4 (rdOf ByteArray.empty x15 x17) x15 x16 x17 (decide (((rdOf ByteArray.empty x15 x17).size : Int) > 8)))) else (impl_lostOf.j2 k x0 x4 (rdOf ByteArray.empty x15 x17) x15 x16 x17 true)) else (none)) else (none)) else (none)) else (some (x4, true))
def impl_lostOf.j2 : Nat → List ByteArray → Int → ByteArray → List ByteArray → Int → Int → Bool → Option (Int × Bool)
 | 0, _, _, _, _, _, _, _ => none
 | k + 1, x0, x4, x6, x15, x16, x17, x36 => if x36 = true then (some (0, false)) else ((impl_isLost.f x6).bind fun t197 => (if t197 = true then (impl_lostOf.l0 k x0 (wrap64 (x4 + 1)) x15 x16 (wrap64 (x17 + 1))) else ((strings_Trim.f x6 (⟨#[97, 98, 99, 100]⟩ : ByteArray)).bind fun t198 => (if t198.toList = ([] : List UInt8) then (impl_lostOf.l0 k x0 x4 x15 x16 (wrap64 (x17 + 1))) else (some (0, false))))))
end
def impl_lostOf.f (k : Nat) (l0 : List ByteArray) : Option (Int × Bool) := if (l0.length : Int) < 1 then (impl_lostOf.j0 k l0 true) else (impl_lostOf.j0 k l0 (decide ((l0.length : Int) > 6)))
set_option maxHeartbeats 8000000 in
set_option maxRecDepth 100000 in
theorem impl_lostOf.calls (k : Nat) (A0 : Option Addr) (c0 : Nat) (l0 : List ByteArray) (r1 : Int) (r2 : Bool) (w : World) (hr0 : Kd.C Kd.string w A0 l0.length l0) (hc0 : l0.length ≤ c0) (h : impl_lostOf.f k l0 = some (r1, r2)) :
  Calls Tryd.prog 24 #[.slice A0 l0.length c0] w fun e w' => e = .returned (.tuple #[.int .i64 r1, .bool r2]) ∧ Below w.heap.size w w' := by
 have HR0 := am hr0
 have HC0 := am hc0
 clear hr0 hc0
 have HB := am (Below.refl w.heap.size w)
 have H : (if (l0.length : Int) < 1 then (impl_lostOf.j0 k l0 true) else (impl_lostOf.j0 k l0 (decide ((l0.length : Int) > 6)))) = some (r1, r2) := h
 clear h
 have HC2 := am H
 clear H
 go_enter Tryd.func24, Tryd.ntmps24
 go_upto_region 1 with (fail)
 go_cut [14] (fun v14 wc => ∃ (kq : Nat) (x14_1 : Bool), v14 = .bool x14_1 ∧ Aside0 (impl_lostOf.j0 kq l0 x14_1 = some (r1, r2)) ∧ Aside0 (kq ≤ k) ∧ Aside0 (Below w.heap.size w wc))
 case first =>
  have H := HC2.out
  clear HC2
  by_cases c3 : (l0.length : Int) < 1
  ·rw [if_pos c3] at H
   have c3b0 : decide ((l0.length : Int) < 1) = true := decide_eq_true c3
   have c3b1 : decide (l0.length < 1) = true := decide_eq_true (by omega)
   clear c3
   (first | rw [c3b0] | (simp only [i64_w, i32_w]; rw [c3b0]) | skip)
   have H' := am H
   clear H
   go_wp2
   go_meet
   case rel => exact ⟨_, (true), (by first | rfl | (simp; done) | (simp [*]; done)), H', ⟨by first | omega | exact Nat.le_refl _⟩, ⟨bu HB.out⟩⟩
  ·rw [if_neg c3] at H
   have c3b0 : decide ((l0.length : Int) < 1) = false := decide_eq_false c3
   have c3b1 : decide (l0.length < 1) = false := decide_eq_false (by omega)
   clear c3
   (first | rw [c3b0] | (simp only [i64_w, i32_w]; rw [c3b0]) | skip)
   have H' := am H
   clear H
   go_wp2
   go_meet
   case rel => exact ⟨_, (decide ((l0.length : Int) > 6)), (by first | rfl | (simp; done) | (simp [*]; done)), H', ⟨by first | omega | exact Nat.le_refl _⟩, ⟨bu HB.out⟩⟩
 case rest =>
  clear HC2
  try clear c2
  try clear p2
  try clear c3
  try clear c3b0
  try clear c3b1
  obtain ⟨kq, x14_1, rfl, HA, HJ1, HB⟩ := hcut
  cases kq with
  | zero => exact absurd HA.out (by simp [impl_lostOf.j0])
  | succ kj1 =>
   have H := HA.out
   clear HA
   simp only [impl_lostOf.j0] at H
   by_cases c4 : x14_1 = true
   ·subst c4
    have H1 : (some (0, false)) = some (r1, r2) := by rw [if_pos rfl] at H; exact H
    clear H
    have H := H1
    clear H1
    simp only [Option.some.injEq, Prod.mk.injEq] at H
    obtain ⟨rfl, rfl⟩ := H
    go_wp2
    go_ret2
    exact ⟨by first | rfl | (simp [errW_none, errW_some] <;> rfl) | (simp [*, errW_none, errW_some] <;> rfl), bu HB.out⟩
   ·replace c4 := Bool.eq_false_iff.mpr c4
    subst c4
    have H1 : (impl_lostOf.l0 kj1 l0 0 l0 (l0.length : Int) 0) = some (r1, r2) := by rw [if_neg (show ¬ (false = true) by decide)] at H; exact H
    clear H
    have H := H1
    clear H1
    have H' := am H
    clear H
    go_wp2
    go_loopg [4, 17] kj1 (fun kq v4 v17 w' => ∃ (x4_2 : Int) (x17_2 : Int), v4 = .int .i64 x4_2 ∧ v17 = .int .i64 x17_2 ∧ Aside0 (impl_lostOf.l0 kq l0 x4_2 l0 (l0.length : Int) x17_2 = some (r1, r2)) ∧ Aside0 (kq ≤ kj1) ∧ Aside0 (Below w.heap.size w w'))
    case atStart => exact ⟨(0), (0), (by first | rfl | (simp; done) | (simp [*]; done)), (by first | rfl | (simp; done) | (simp [*]; done)), H', ⟨Nat.le_refl _⟩, ⟨bu HB.out⟩⟩
    case round =>
     clear H'
     try clear c2
     try clear p2
     try clear c3
     try clear c3b0
     try clear c3b1
     try clear c4
     try clear p2
     obtain ⟨x4_2, x17_2, rfl, rfl, HA, HK2, HB⟩ := hrel
     cases gk with
     | zero => exact absurd HA.out (by simp [impl_lostOf.l0])
     | succ k2 =>
      have H := HA.out
      clear HA
      simp only [impl_lostOf.l0] at H
      by_cases c5 : x17_2 < (l0.length : Int)
      ·rw [if_pos c5] at H
       have c5b0 : decide (x17_2 < (l0.length : Int)) = true := decide_eq_true c5
       clear c5
       by_cases c6 : 0 ≤ x17_2
       ·rw [if_pos c6] at H
        have c6b0 : decide (0 ≤ x17_2) = true := decide_eq_true c6
        clear c6
        by_cases c7 : x17_2 < (l0.length : Int)
        ·rw [if_pos c7] at H
         have c7b0 : decide (x17_2 < (l0.length : Int)) = true := decide_eq_true c7
         clear c7
         have HC8 := am H
         clear H
         have p195 : 0 ≤ (x17_2 : Int) := od
         have q195 : x17_2 < (l0.length : Int) := od
         obtain ⟨ad195, e195, hx195_0⟩ := Kd.at_string HR0.out x17_2 p195 q195
         cases e195
         replace hx195_0 := (HB.out.cell (World.block_lt_of_cell? w _ hx195_0)).trans hx195_0
         replace p195 := eq_true p195
         replace q195 := eq_true q195
         go_upto_region 7 with (fail)
         go_cut [36] (fun v36 wc => ∃ (kq : Nat) (x36_7 : Bool), v36 = .bool x36_7 ∧ Aside0 (impl_lostOf.j2 kq l0 x4_2 (rdOf ByteArray.empty l0 x17_2) l0 (l0.length : Int) x17_2 x36_7 = some (r1, r2)) ∧ Aside0 (kq ≤ k2) ∧ Aside0 (Below w.heap.size w wc))
         case first =>
          have H := HC8.out
          clear HC8
          by_cases c9 : 0 < (l0.length : Int)
          ·rw [if_pos c9] at H
           have c9b0 : decide (0 < (l0.length : Int)) = true := decide_eq_true c9
           have c9b1 : decide (0 < l0.length) = true := decide_eq_true (by omega)
           clear c9
           (first | rw [c9b0] | (simp only [i64_w, i32_w]; rw [c9b0]) | skip)
           by_cases c10 : ((rdOf ByteArray.empty l0 x17_2).size : Int) = ((rdOf ByteArray.empty l0 0).size : Int)
           ·rw [if_pos c10] at H
            have c10b0 : (((rdOf ByteArray.empty l0 x17_2).size : Int) == ((rdOf ByteArray.empty l0 0).size : Int)) = true := beq_iff_eq.mpr c10
            have c10b1 : (((rdOf ByteArray.empty l0 x17_2).size : Int) != ((rdOf ByteArray.empty l0 0).size : Int)) = false := bne_eq_false_iff_eq.mpr c10
            have c10b2 : ((rdOf ByteArray.empty l0 x17_2).size == (rdOf ByteArray.empty l0 0).size) = true := by first | simpa using c10 | (simp at c10 ⊢; omega)
            clear c10
            by_cases c11 : (rdOf ByteArray.empty l0 x17_2).toList = ([] : List UInt8)
            ·rw [if_pos c11] at H
             have c11b0 : ((rdOf ByteArray.empty l0 x17_2).toList == ([] : List UInt8)) = true := beq_iff_eq.mpr c11
             have c11b1 : ((rdOf ByteArray.empty l0 x17_2).toList != ([] : List UInt8)) = false := bne_eq_false_iff_eq.mpr c11
             clear c11
             have H' := am H
             clear H
             have p196 : 0 ≤ (0 : Int) := (by omega)
             have q196 : 0 < (l0.length : Int) := od
             obtain ⟨ad196, e196, hx196_0⟩ := Kd.at_string HR0.out 0 p196 q196
             obtain rfl : ad195 = ad196 := (by injection e196)
             have qi196 : (0 < l0.length) = True := eq_true (by omega)
             (try rw [show ((0 : Int)).toNat = 0 from rfl] at hx196_0)
             (try rw [Addr.add_zero'] at hx196_0)
             replace hx196_0 := (HB.out.cell (World.block_lt_of_cell? w _ hx196_0)).trans hx196_0
             replace p196 := eq_true p196
             replace q196 := eq_true q196
             go_wp2
             go_meet
             case rel => exact ⟨_, (true), (by first | rfl | (simp; done) | (simp [*]; done)), H', ⟨by have := HJ1.out; have := HK2.out; first | omega | exact Nat.le_refl _⟩, ⟨bu HB.out⟩⟩
            ·rw [if_neg c11] at H
             have c11b0 : ((rdOf ByteArray.empty l0 x17_2).toList == ([] : List UInt8)) = false := beq_eq_false_iff_ne.mpr c11
             have c11b1 : ((rdOf ByteArray.empty l0 x17_2).toList != ([] : List UInt8)) = true := bne_iff_ne.mpr c11
             have H' := am H
             clear H
             have p196 : 0 ≤ (0 : Int) := (by omega)
             have q196 : 0 < (l0.length : Int) := od
             obtain ⟨ad196, e196, hx196_0⟩ := Kd.at_string HR0.out 0 p196 q196
             obtain rfl : ad195 = ad196 := (by injection e196)
             have qi196 : (0 < l0.length) = True := eq_true (by omega)
             (try rw [show ((0 : Int)).toNat = 0 from rfl] at hx196_0)
             (try rw [Addr.add_zero'] at hx196_0)
             replace hx196_0 := (HB.out.cell (World.block_lt_of_cell? w _ hx196_0)).trans hx196_0
             replace p196 := eq_true p196
             replace q196 := eq_true q196
             go_wp2
             go_meet
             case rel => exact ⟨_, (decide (((rdOf ByteArray.empty l0 x17_2).size : Int) > 8)), (by first | rfl | (simp; done) | (simp [*]; done)), H', ⟨by have := HJ1.out; have := HK2.out; first | omega | exact Nat.le_refl _⟩, ⟨bu HB.out⟩⟩
           ·rw [if_neg c10] at H
            have c10b0 : (((rdOf ByteArray.empty l0 x17_2).size : Int) == ((rdOf ByteArray.empty l0 0).size : Int)) = false := beq_eq_false_iff_ne.mpr c10
            have c10b1 : (((rdOf ByteArray.empty l0 x17_2).size : Int) != ((rdOf ByteArray.empty l0 0).size : Int)) = true := bne_iff_ne.mpr c10
            have c10b2 : ((rdOf ByteArray.empty l0 x17_2).size == (rdOf ByteArray.empty l0 0).size) = false := by first | simpa using c10 | (simp at c10 ⊢; omega)
            have H' := am H
            clear H
            have p196 : 0 ≤ (0 : Int) := (by omega)
            have q196 : 0 < (l0.length : Int) := od
            obtain ⟨ad196, e196, hx196_0⟩ := Kd.at_string HR0.out 0 p196 q196
            obtain rfl : ad195 = ad196 := (by injection e196)
            have qi196 : (0 < l0.length) = True := eq_true (by omega)
            (try rw [show ((0 : Int)).toNat = 0 from rfl] at hx196_0)
            (try rw [Addr.add_zero'] at hx196_0)
            replace hx196_0 := (HB.out.cell (World.block_lt_of_cell? w _ hx196_0)).trans hx196_0
            replace p196 := eq_true p196
            replace q196 := eq_true q196
            go_wp2
            go_meet
            case rel => exact ⟨_, (true), (by first | rfl | (simp; done) | (simp [*]; done)), H', ⟨by have := HJ1.out; have := HK2.out; first | omega | exact Nat.le_refl _⟩, ⟨bu HB.out⟩⟩
          ·rw [if_neg c9] at H
           exact absurd H (by simp)
         case rest =>
          clear HC8
          try clear c1
          try clear p1
          try clear q1
          try clear hx1
          try clear qi1
          try clear c2
          try clear p2
          try clear c3
          try clear c3b0
          try clear c3b1
          try clear c4
          try clear c5
          try clear c5b0
          try clear c6
          try clear c6b0
          try clear c7
          try clear c7b0
          try clear c9
          try clear c9b0
          try clear c9b1
          try clear c10
          try clear c10b0
          try clear c10b1
          try clear c10b2
          try clear c11
          try clear c11b0
          try clear c11b1
          try clear hx195_0
          try clear hx196_0
          try clear p195
          try clear p196
          try clear p2
          try clear q195
          try clear q196
          obtain ⟨kq, x36_7, rfl, HA, HJ7, HB⟩ := hcut
          cases kq with
          | zero => exact absurd HA.out (by simp [impl_lostOf.j2])
          | succ kj7 =>
           have H := HA.out
           clear HA
           simp only [impl_lostOf.j2] at H
           by_cases c12 : x36_7 = true
           ·subst c12
            have H1 : (some (0, false)) = some (r1, r2) := by rw [if_pos rfl] at H; exact H
            clear H
            have H := H1
            clear H1
            simp only [Option.some.injEq, Prod.mk.injEq] at H
            obtain ⟨rfl, rfl⟩ := H
            go_wp2
            go_ret2
            exact ⟨by first | rfl | (simp [errW_none, errW_some] <;> rfl) | (simp [*, errW_none, errW_some] <;> rfl), bu HB.out⟩
           ·replace c12 := Bool.eq_false_iff.mpr c12
            subst c12
            have H1 : ((impl_isLost.f (rdOf ByteArray.empty l0 x17_2)).bind fun t197 => (if t197 = true then (impl_lostOf.l0 kj7 l0 (wrap64 (x4_2 + 1)) l0 (l0.length : Int) (wrap64 (x17_2 + 1))) else ((strings_Trim.f (rdOf ByteArray.empty l0 x17_2) (⟨#[97, 98, 99, 100]⟩ : ByteArray)).bind fun t198 => (if t198.toList = ([] : List UInt8) then (impl_lostOf.l0 kj7 l0 x4_2 l0 (l0.length : Int) (wrap64 (x17_2 + 1))) else (some (0, false)))))) = some (r1, r2) := by rw [if_neg (show ¬ (false = true) by decide)] at H; exact H
            clear H
            have H := H1
            clear H1
            replace H := Option.bind_eq_some_iff.mp H
            obtain ⟨t197, A130, H⟩ := H
            replace H : (if t197 = true then (impl_lostOf.l0 kj7 l0 (wrap64 (x4_2 + 1)) l0 (l0.length : Int) (wrap64 (x17_2 + 1))) else ((strings_Trim.f (rdOf ByteArray.empty l0 x17_2) (⟨#[97, 98, 99, 100]⟩ : ByteArray)).bind fun t198 => (if t198.toList = ([] : List UInt8) then (impl_lostOf.l0 kj7 l0 x4_2 l0 (l0.length : Int) (wrap64 (x17_2 + 1))) else (some (0, false))))) = some (r1, r2) := H
            have A13 := am A130
            clear A130
            by_cases c14 : t197 = true
            ·subst c14
             have H1 : (impl_lostOf.l0 kj7 l0 (wrap64 (x4_2 + 1)) l0 (l0.length : Int) (wrap64 (x17_2 + 1))) = some (r1, r2) := by rw [if_pos rfl] at H; exact H
             clear H
             have H := H1
             clear H1
             have H' := am H
             clear H
             go_wp2_with (first | ((with_reducible refine gate_callee (f := 25) rfl ?_); refine goesL_ (some 38) rfl rfl Tryd.func25 (by kernel_rfl) rfl #[.string (rdOf ByteArray.empty l0 x17_2)] rfl (by (try simp only [List.map_toArray, List.map_cons, List.map_nil]); first | done | rfl | (simp only [List.length_drop, List.length_take]; rfl)) ?_; (with_reducible refine (impl_isLost.calls (rdOf ByteArray.empty l0 x17_2) true _ A13.out).mono ?_); rintro e w15 ⟨rfl, hb⟩; refine ⟨_, rfl, ?_⟩; have n0_ := am (below_step (bu HB.out) hb); clear HB; have HB := n0_; clear n0_; (try clear hb); (try clear hb2); (try clear hk); (try clear hi)))
             go_roundg kj7
             case measure => have := HJ1.out; have := HK2.out; have := HJ7.out; omega
             case rel => exact ⟨(wrap64 (x4_2 + 1)), (wrap64 (x17_2 + 1)), (by first | rfl | (simp; done) | (simp [*]; done)), (by first | rfl | (simp; done) | (simp [*]; done)), H', ⟨by have := HJ1.out; have := HK2.out; have := HJ7.out; omega⟩, ⟨bu HB.out⟩⟩
            ·replace c14 := Bool.eq_false_iff.mpr c14
             subst c14
             have H1 : ((strings_Trim.f (rdOf ByteArray.empty l0 x17_2) (⟨#[97, 98, 99, 100]⟩ : ByteArray)).bind fun t198 => (if t198.toList = ([] : List UInt8) then (impl_lostOf.l0 kj7 l0 x4_2 l0 (l0.length : Int) (wrap64 (x17_2 + 1))) else (some (0, false)))) = some (r1, r2) := by rw [if_neg (show ¬ (false = true) by decide)] at H; exact H
             clear H
             have H := H1
             clear H1
             replace H := Option.bind_eq_some_iff.mp H
             obtain ⟨t198, A160, H⟩ := H
             replace H : (if t198.toList = ([] : List UInt8) then (impl_lostOf.l0 kj7 l0 x4_2 l0 (l0.length : Int) (wrap64 (x17_2 + 1))) else (some (0, false))) = some (r1, r2) := H
             have A16 := am A160
             clear A160
             by_cases c17 : t198.toList = ([] : List UInt8)
             ·rw [if_pos c17] at H
              have c17b0 : (t198.toList == ([] : List UInt8)) = true := beq_iff_eq.mpr c17
              have c17b1 : (t198.toList != ([] : List UInt8)) = false := bne_eq_false_iff_eq.mpr c17
              clear c17
              have H' := am H
              clear H
              go_wp2_with (first | ((with_reducible refine gate_callee (f := 25) rfl ?_); refine goesL_ (some 38) rfl rfl Tryd.func25 (by kernel_rfl) rfl #[.string (rdOf ByteArray.empty l0 x17_2)] rfl (by (try simp only [List.map_toArray, List.map_cons, List.map_nil]); first | done | rfl | (simp only [List.length_drop, List.length_take]; rfl)) ?_; (with_reducible refine (impl_isLost.calls (rdOf ByteArray.empty l0 x17_2) false _ A13.out).mono ?_); rintro e w18 ⟨rfl, hb⟩; refine ⟨_, rfl, ?_⟩; have n0_ := am (below_step (bu HB.out) hb); clear HB; have HB := n0_; clear n0_; (try clear hb); (try clear hb2); (try clear hk); (try clear hi)) | ((with_reducible refine gate_callee (f := 32) rfl ?_); refine goesL_ (some 42) rfl rfl Tryd.func32 (by kernel_rfl) rfl #[.string (rdOf ByteArray.empty l0 x17_2), .string (⟨#[97, 98, 99, 100]⟩ : ByteArray)] rfl (by (try simp only [List.map_toArray, List.map_cons, List.map_nil]); first | done | rfl | (simp only [List.length_drop, List.length_take]; rfl)) ?_; (with_reducible refine (strings_Trim.calls (rdOf ByteArray.empty l0 x17_2) (⟨#[97, 98, 99, 100]⟩ : ByteArray) t198 _ A16.out).mono ?_); rintro e w19 ⟨rfl, hb⟩; refine ⟨_, rfl, ?_⟩; have n0_ := am (below_step (bu HB.out) hb); clear HB; have HB := n0_; clear n0_; (try clear hb); (try clear hb2); (try clear hk); (try clear hi)))
              go_roundg kj7
              case measure => have := HJ1.out; have := HK2.out; have := HJ7.out; omega
              case rel => exact ⟨(x4_2), (wrap64 (x17_2 + 1)), (by first | rfl | (simp; done) | (simp [*]; done)), (by first | rfl | (simp; done) | (simp [*]; done)), H', ⟨by have := HJ1.out; have := HK2.out; have := HJ7.out; omega⟩, ⟨bu HB.out⟩⟩
             ·rw [if_neg c17] at H
              have c17b0 : (t198.toList == ([] : List UInt8)) = false := beq_eq_false_iff_ne.mpr c17
              have c17b1 : (t198.toList != ([] : List UInt8)) = true := bne_iff_ne.mpr c17
              simp only [Option.some.injEq, Prod.mk.injEq] at H
              obtain ⟨rfl, rfl⟩ := H
              go_wp2_with (first | ((with_reducible refine gate_callee (f := 25) rfl ?_); refine goesL_ (some 38) rfl rfl Tryd.func25 (by kernel_rfl) rfl #[.string (rdOf ByteArray.empty l0 x17_2)] rfl (by (try simp only [List.map_toArray, List.map_cons, List.map_nil]); first | done | rfl | (simp only [List.length_drop, List.length_take]; rfl)) ?_; (with_reducible refine (impl_isLost.calls (rdOf ByteArray.empty l0 x17_2) false _ A13.out).mono ?_); rintro e w20 ⟨rfl, hb⟩; refine ⟨_, rfl, ?_⟩; have n0_ := am (below_step (bu HB.out) hb); clear HB; have HB := n0_; clear n0_; (try clear hb); (try clear hb2); (try clear hk); (try clear hi)) | ((with_reducible refine gate_callee (f := 32) rfl ?_); refine goesL_ (some 42) rfl rfl Tryd.func32 (by kernel_rfl) rfl #[.string (rdOf ByteArray.empty l0 x17_2), .string (⟨#[97, 98, 99, 100]⟩ : ByteArray)] rfl (by (try simp only [List.map_toArray, List.map_cons, List.map_nil]); first | done | rfl | (simp only [List.length_drop, List.length_take]; rfl)) ?_; (with_reducible refine (strings_Trim.calls (rdOf ByteArray.empty l0 x17_2) (⟨#[97, 98, 99, 100]⟩ : ByteArray) t198 _ A16.out).mono ?_); rintro e w21 ⟨rfl, hb⟩; refine ⟨_, rfl, ?_⟩; have n0_ := am (below_step (bu HB.out) hb); clear HB; have HB := n0_; clear n0_; (try clear hb); (try clear hb2); (try clear hk); (try clear hi)))
              go_ret2
              exact ⟨by first | rfl | (simp [errW_none, errW_some] <;> rfl) | (simp [*, errW_none, errW_some] <;> rfl), bu HB.out⟩
        ·rw [if_neg c7] at H
         exact absurd H (by simp)
       ·rw [if_neg c6] at H
        exact absurd H (by simp)
      ·rw [if_neg c5] at H
       have c5b0 : decide (x17_2 < (l0.length : Int)) = false := decide_eq_false c5
       clear c5
       simp only [Option.some.injEq, Prod.mk.injEq] at H
       obtain ⟨rfl, rfl⟩ := H
       go_wp2
       go_ret2
       exact ⟨by first | rfl | (simp [errW_none, errW_some] <;> rfl) | (simp [*, errW_none, errW_some] <;> rfl), bu HB.out⟩

/-! ### impl_StemValid: function 13 -/
mutual
def impl_StemValid.j0 : Nat → List Int → Bool → Option (Bool)
 | 0, _, _ => none
 | k + 1, x1, x34 => if x34 = true then (some false) else (if 1 ≤ (x1.length : Int) then (impl_StemValid.l0 k (x1.drop 1) ((x1.drop 1).length : Int) 0) else (none))
def impl_StemValid.l0 : Nat → List Int → Int → Int → Option (Bool)
 | 0, _, _, _ => none
 | k + 1, x36, x37, x38 => if x38 < x37 then (if 0 ≤ x38 then (if x38 < (x36.length : Int) then (if (rd x36 x38) < 0 then (some false) else (if (rd x36 x38) > x38 then (some false) else (impl_StemValid.l0 k x36 x37 (wrap64 (x38 + 1))))) else (none)) else (none)) else (some true)
end
def impl_StemValid.f (k : Nat) (l0 : List ByteArray) (l1 : List Int) : Option (Bool) := (impl_lostOf.f k l0).bind fun bt199 => (if bt199.2 = true then (if bt199.1 = (l0.length : Int) then (impl_StemValid.j0 k l1 true) else (if (l1.length : Int) = (l0.length : Int) then (if 0 < (l1.length : Int) then (impl_StemValid.j0 k l1 ((rd l1 0) != (-1))) else (none)) else (impl_StemValid.j0 k l1 true))) else (impl_StemValid.j0 k l1 true))
set_option maxHeartbeats 8000000 in
set_option maxRecDepth 100000 in
theorem impl_StemValid.calls (k : Nat) (A0 : Option Addr) (c0 : Nat) (l0 : List ByteArray) (A1 : Option Addr) (c1 : Nat) (l1 : List Int) (r : Bool) (w : World) (hr0 : Kd.C Kd.string w A0 l0.length l0) (hc0 : l0.length ≤ c0) (hr1 : Kd.C (Kd.int .i64) w A1 l1.length l1) (hc1 : l1.length ≤ c1) (h : impl_StemValid.f k l0 l1 = some r) :
  Calls Tryd.prog 13 #[.slice A0 l0.length c0, .slice A1 l1.length c1] w fun e w' => e = .returned (.bool r) ∧ Below w.heap.size w w' := by
 have HR0 := am hr0
 have HC0 := am hc0
 clear hr0 hc0
 have HR1 := am hr1
 have HC1 := am hc1
 clear hr1 hc1
 have HB := am (Below.refl w.heap.size w)
 have H : ((impl_lostOf.f k l0).bind fun bt199 => (if bt199.2 = true then (if bt199.1 = (l0.length : Int) then (impl_StemValid.j0 k l1 true) else (if (l1.length : Int) = (l0.length : Int) then (if 0 < (l1.length : Int) then (impl_StemValid.j0 k l1 ((rd l1 0) != (-1))) else (none)) else (impl_StemValid.j0 k l1 true))) else (impl_StemValid.j0 k l1 true))) = some r := h
 clear h
 replace H := Option.bind_eq_some_iff.mp H
 obtain ⟨⟨t199, t200⟩, A30, H⟩ := H
 replace H : (if t200 = true then (if t199 = (l0.length : Int) then (impl_StemValid.j0 k l1 true) else (if (l1.length : Int) = (l0.length : Int) then (if 0 < (l1.length : Int) then (impl_StemValid.j0 k l1 ((rd l1 0) != (-1))) else (none)) else (impl_StemValid.j0 k l1 true))) else (impl_StemValid.j0 k l1 true)) = some r := H
 have A3 := am A30
 clear A30
 have HC4 := am H
 clear H
 go_enter Tryd.func13, Tryd.ntmps13
 go_upto_region 2 with (first | ((with_reducible refine gate_callee (f := 24) rfl ?_); refine goesL_ (some 11) rfl rfl Tryd.func24 (by kernel_rfl) rfl #[.slice A0 l0.length c0] rfl (by (try simp only [List.map_toArray, List.map_cons, List.map_nil]); first | done | rfl | (simp only [List.length_drop, List.length_take]; rfl)) ?_; (with_reducible refine (impl_lostOf.calls k _ _ l0 t199 t200 _ ?side1 ?side2 A3.out).mono ?_); (case side1 => exact cu HR0.out); (case side2 => exact HC0.out); rintro e w5 ⟨rfl, hb⟩; refine ⟨_, rfl, ?_⟩; have n0_ := am (below_step (bu HB.out) hb); clear HB; have HB := n0_; clear n0_; (try clear hb); (try clear hb2); (try clear hk); (try clear hi)))
 (try simp only [Act.put, sA, sZ, sS])
 go_cut [34] (fun v34 wc => ∃ (kq : Nat) (x34_3 : Bool), v34 = .bool x34_3 ∧ Aside0 (impl_StemValid.j0 kq l1 x34_3 = some r) ∧ Aside0 (kq ≤ k) ∧ Aside0 (Below w.heap.size w wc))
 case first =>
  have H := HC4.out
  clear HC4
  by_cases c6 : t200 = true
  ·subst c6
   have H1 : (if t199 = (l0.length : Int) then (impl_StemValid.j0 k l1 true) else (if (l1.length : Int) = (l0.length : Int) then (if 0 < (l1.length : Int) then (impl_StemValid.j0 k l1 ((rd l1 0) != (-1))) else (none)) else (impl_StemValid.j0 k l1 true))) = some r := by rw [if_pos rfl] at H; exact H
   clear H
   have H := H1
   clear H1
   by_cases c7 : t199 = (l0.length : Int)
   ·rw [if_pos c7] at H
    have c7b0 : (t199 == (l0.length : Int)) = true := beq_iff_eq.mpr c7
    have c7b1 : (t199 != (l0.length : Int)) = false := bne_eq_false_iff_eq.mpr c7
    clear c7
    (first | rw [c7b0] | (simp only [i64_w, i32_w]; rw [c7b0]) | skip)
    have H' := am H
    clear H
    go_wp2
    go_meet
    case rel => exact ⟨_, (true), (by first | rfl | (simp; done) | (simp [*]; done)), H', ⟨by first | omega | exact Nat.le_refl _⟩, ⟨bu HB.out⟩⟩
   ·rw [if_neg c7] at H
    have c7b0 : (t199 == (l0.length : Int)) = false := beq_eq_false_iff_ne.mpr c7
    have c7b1 : (t199 != (l0.length : Int)) = true := bne_iff_ne.mpr c7
    (first | rw [c7b0] | (simp only [i64_w, i32_w]; rw [c7b0]) | skip)
    by_cases c8 : (l1.length : Int) = (l0.length : Int)
    ·rw [if_pos c8] at H
     have c8b0 : ((l1.length : Int) == (l0.length : Int)) = true := beq_iff_eq.mpr c8
     have c8b1 : ((l1.length : Int) != (l0.length : Int)) = false := bne_eq_false_iff_eq.mpr c8
     have c8b2 : (l1.length == l0.length) = true := by first | simpa using c8 | (simp at c8 ⊢; omega)
     clear c8
     by_cases c9 : 0 < (l1.length : Int)
     ·rw [if_pos c9] at H
      have c9b0 : decide (0 < (l1.length : Int)) = true := decide_eq_true c9
      have c9b1 : decide (0 < l1.length) = true := decide_eq_true (by omega)
      clear c9
      have H' := am H
      clear H
      have p201 : 0 ≤ (0 : Int) := (by omega)
      have q201 : 0 < (l1.length : Int) := od
      obtain ⟨ad201, e201, hx201_0⟩ := Kd.at_int HR1.out 0 p201 q201
      cases e201
      have qi201 : (0 < l1.length) = True := eq_true (by omega)
      (try rw [show ((0 : Int)).toNat = 0 from rfl] at hx201_0)
      (try rw [Addr.add_zero'] at hx201_0)
      replace hx201_0 := (HB.out.cell (World.block_lt_of_cell? w _ hx201_0)).trans hx201_0
      replace p201 := eq_true p201
      replace q201 := eq_true q201
      go_wp2
      go_meet
      case rel => exact ⟨_, (((rd l1 0) != (-1))), (by first | rfl | (simp; done) | (simp [*]; done)), H', ⟨by first | omega | exact Nat.le_refl _⟩, ⟨bu HB.out⟩⟩
     ·rw [if_neg c9] at H
      exact absurd H (by simp)
    ·rw [if_neg c8] at H
     have c8b0 : ((l1.length : Int) == (l0.length : Int)) = false := beq_eq_false_iff_ne.mpr c8
     have c8b1 : ((l1.length : Int) != (l0.length : Int)) = true := bne_iff_ne.mpr c8
     have c8b2 : (l1.length == l0.length) = false := by first | simpa using c8 | (simp at c8 ⊢; omega)
     have H' := am H
     clear H
     go_wp2
     go_meet
     case rel => exact ⟨_, (true), (by first | rfl | (simp; done) | (simp [*]; done)), H', ⟨by first | omega | exact Nat.le_refl _⟩, ⟨bu HB.out⟩⟩
  ·replace c6 := Bool.eq_false_iff.mpr c6
   subst c6
   have H1 : (impl_StemValid.j0 k l1 true) = some r := by rw [if_neg (show ¬ (false = true) by decide)] at H; exact H
   clear H
   have H := H1
   clear H1
   have H' := am H
   clear H
   go_wp2
   go_meet
   case rel => exact ⟨_, (true), (by first | rfl | (simp; done) | (simp [*]; done)), H', ⟨by first | omega | exact Nat.le_refl _⟩, ⟨bu HB.out⟩⟩
 case rest =>
  clear HC4
  try clear c1
  try clear c2
  try clear p2
  try clear q2
  try clear hx2
  try clear qi2
  try clear c6
  try clear c7
  try clear c7b0
  try clear c7b1
  try clear c8
  try clear c8b0
  try clear c8b1
  try clear c8b2
  try clear c9
  try clear c9b0
  try clear c9b1
  try clear hx201_0
  try clear p201
  try clear q201
  obtain ⟨kq, x34_3, rfl, HA, HJ3, HB⟩ := hcut
  cases kq with
  | zero => exact absurd HA.out (by simp [impl_StemValid.j0])
  | succ kj3 =>
   have H := HA.out
   clear HA
   simp only [impl_StemValid.j0] at H
   by_cases c10 : x34_3 = true
   ·subst c10
    have H1 : (some false) = some r := by rw [if_pos rfl] at H; exact H
    clear H
    have H := H1
    clear H1
    obtain rfl := Option.some.inj H
    go_wp2
    go_ret
    exact ⟨by first | rfl | (simp [errW_none, errW_some] <;> rfl) | (simp [*, errW_none, errW_some] <;> rfl), bu HB.out⟩
   ·replace c10 := Bool.eq_false_iff.mpr c10
    subst c10
    have H1 : (if 1 ≤ (l1.length : Int) then (impl_StemValid.l0 kj3 (l1.drop 1) ((l1.drop 1).length : Int) 0) else (none)) = some r := by rw [if_neg (show ¬ (false = true) by decide)] at H; exact H
    clear H
    have H := H1
    clear H1
    by_cases c11 : 1 ≤ (l1.length : Int)
    ·rw [if_pos c11] at H
     have c11b0 := eq_true c11
     have c11b1 : decide (1 ≤ (l1.length : Int)) = true := decide_eq_true c11
     clear c11
     have H' := am H
     clear H
     obtain ⟨i012, hi012, _, hsz12, _⟩ := info_parts info3
     obtain ⟨A12, hcut12, hA12, hC12⟩ := print_drop_of (P := Tryd.prog) (Value.int .i64) 0 24 3 .i64 Tryd.underlying24 hi012 hsz12 A1 c1 l1 1 (by omega) (od) HC1.out
     have HR202 := am (Kd.C_of_reads (h1 := fun _ => rfl) (hA12 _ (Kd.reads_of_C HR1.out)))
     have HC202 := am hC12
     clear hA12 hC12 hi012 hsz12
     try simp only [show Int.toNat 1 = 1 from rfl] at hcut12 HR202 HC202
     obtain ⟨ld12, hld12⟩ : ∃ ld, ld = l1.drop 1 := ⟨_, rfl⟩
     rw [← hld12] at hcut12 H' HR202 HC202
     replace hld12 := am hld12
     go_wp2
     go_loopg [38] kj3 (fun kq v38 w' => ∃ (x38_2 : Int), v38 = .int .i64 x38_2 ∧ Aside0 (impl_StemValid.l0 kq ld12 (ld12.length : Int) x38_2 = some r) ∧ Aside0 (kq ≤ kj3) ∧ Aside0 (Below w.heap.size w w'))
     case atStart => exact ⟨(0), (by first | rfl | (simp; done) | (simp [*]; done)), H', ⟨Nat.le_refl _⟩, ⟨bu HB.out⟩⟩
     case round =>
      clear H'
      try clear c1
      try clear c2
      try clear p2
      try clear q2
      try clear hx2
      try clear qi2
      try clear c6
      try clear c7
      try clear c7b0
      try clear c7b1
      try clear c8
      try clear c8b0
      try clear c8b1
      try clear c8b2
      try clear c9
      try clear c9b0
      try clear c9b1
      try clear c10
      try clear c11
      try clear c11b0
      try clear c11b1
      try clear hx201_0
      try clear p2
      try clear p201
      try clear q2
      try clear q201
      obtain ⟨x38_2, rfl, HA, HK2, HB⟩ := hrel
      cases gk with
      | zero => exact absurd HA.out (by simp [impl_StemValid.l0])
      | succ k2 =>
       have H := HA.out
       clear HA
       simp only [impl_StemValid.l0] at H
       by_cases c13 : x38_2 < (ld12.length : Int)
       ·rw [if_pos c13] at H
        have c13b0 : decide (x38_2 < (ld12.length : Int)) = true := decide_eq_true c13
        clear c13
        by_cases c14 : 0 ≤ x38_2
        ·rw [if_pos c14] at H
         have c14b0 : decide (0 ≤ x38_2) = true := decide_eq_true c14
         clear c14
         by_cases c15 : x38_2 < (ld12.length : Int)
         ·rw [if_pos c15] at H
          have c15b0 : decide (x38_2 < (ld12.length : Int)) = true := decide_eq_true c15
          clear c15
          by_cases c16 : (rd ld12 x38_2) < 0
          ·rw [if_pos c16] at H
           have c16b0 : decide ((rd ld12 x38_2) < 0) = true := decide_eq_true c16
           clear c16
           obtain rfl := Option.some.inj H
           have p203 : 0 ≤ (x38_2 : Int) := od
           have q203 : x38_2 < (ld12.length : Int) := od
           obtain ⟨ad203, e203, hx203_0⟩ := Kd.at_int HR202.out x38_2 p203 q203
           cases e203
           replace hx203_0 := (HB.out.cell (World.block_lt_of_cell? w _ hx203_0)).trans hx203_0
           replace p203 := eq_true p203
           replace q203 := eq_true q203
           go_wp2
           go_ret
           exact ⟨by first | rfl | (simp [errW_none, errW_some] <;> rfl) | (simp [*, errW_none, errW_some] <;> rfl), bu HB.out⟩
          ·rw [if_neg c16] at H
           have c16b0 : decide ((rd ld12 x38_2) < 0) = false := decide_eq_false c16
           clear c16
           by_cases c17 : (rd ld12 x38_2) > x38_2
           ·rw [if_pos c17] at H
            have c17b0 : decide (x38_2 < (rd ld12 x38_2)) = true := decide_eq_true c17
            clear c17
            obtain rfl := Option.some.inj H
            have p203 : 0 ≤ (x38_2 : Int) := od
            have q203 : x38_2 < (ld12.length : Int) := od
            obtain ⟨ad203, e203, hx203_0⟩ := Kd.at_int HR202.out x38_2 p203 q203
            cases e203
            replace hx203_0 := (HB.out.cell (World.block_lt_of_cell? w _ hx203_0)).trans hx203_0
            replace p203 := eq_true p203
            replace q203 := eq_true q203
            go_wp2
            go_ret
            exact ⟨by first | rfl | (simp [errW_none, errW_some] <;> rfl) | (simp [*, errW_none, errW_some] <;> rfl), bu HB.out⟩
           ·rw [if_neg c17] at H
            have c17b0 : decide (x38_2 < (rd ld12 x38_2)) = false := decide_eq_false c17
            clear c17
            have H' := am H
            clear H
            have p203 : 0 ≤ (x38_2 : Int) := od
            have q203 : x38_2 < (ld12.length : Int) := od
            obtain ⟨ad203, e203, hx203_0⟩ := Kd.at_int HR202.out x38_2 p203 q203
            cases e203
            replace hx203_0 := (HB.out.cell (World.block_lt_of_cell? w _ hx203_0)).trans hx203_0
            replace p203 := eq_true p203
            replace q203 := eq_true q203
            go_wp2
            go_roundg k2
            case measure => have := HJ3.out; have := HK2.out; omega
            case rel => exact ⟨(wrap64 (x38_2 + 1)), (by first | rfl | (simp; done) | (simp [*]; done)), H', ⟨by have := HJ3.out; have := HK2.out; omega⟩, ⟨bu HB.out⟩⟩
         ·rw [if_neg c15] at H
          exact absurd H (by simp)
        ·rw [if_neg c14] at H
         exact absurd H (by simp)
       ·rw [if_neg c13] at H
        have c13b0 : decide (x38_2 < (ld12.length : Int)) = false := decide_eq_false c13
        clear c13
        obtain rfl := Option.some.inj H
        go_wp2
        go_ret
        exact ⟨by first | rfl | (simp [errW_none, errW_some] <;> rfl) | (simp [*, errW_none, errW_some] <;> rfl), bu HB.out⟩
    ·rw [if_neg c11] at H
     exact absurd H (by simp)

-- INNER impl_stemTree
-- INNER impl_stemNode_best
-- INNER impl_stemNode_count
-- INNER impl_stemNode_choose
def bestL (fr : Int) : List Int → Int → Int → Int → Int × Int
 | [], _, a, b => (a, b)
 | c :: r, l, a, b => if a < 0 ∨ (if 0 ≤ fr ∧ l ≠ fr then c + 1 else c) < b then bestL fr r (l + 1) l (if 0 ≤ fr ∧ l ≠ fr then c + 1 else c) else bestL fr r (l + 1) a b
def best4 (c : Int × Int × Int × Int) (fr : Int) : Int × Int := bestL fr [c.1, c.2.1, c.2.2.1, c.2.2.2] 0 (-1) 0
/-- A node's block. -/
def Nd (W : World) (g : Nat) (rd : ByteArray) (par : Option Addr) (A : Option Addr) (kl kc : Nat) (c : Int × Int × Int × Int) (lt : Int) : Prop := W.heap[g]? = some (.cells #[.string rd, .pointer par, .slice A kl kc, .int .i64 c.1, .int .i64 c.2.1, .int .i64 c.2.2.1, .int .i64 c.2.2.2, .int .i64 lt] 43 (0, 0))
def Sm (c : Int × Int × Int × Int) : Prop := ∀ x ∈ [c.1, c.2.1, c.2.2.1, c.2.2.2], -1000000000 ≤ x ∧ x ≤ 1000000000
theorem bst_get (c0 c1 c2 c3 : Int) (i : Nat) (h : i < 4) : ([c0, c1, c2, c3] : List Int).drop i = ([c0, c1, c2, c3] : List Int)[i] :: ([c0, c1, c2, c3] : List Int).drop (i + 1) := List.drop_eq_getElem_cons h
theorem bst_ix (c0 c1 c2 c3 : Int) (i : Nat) (h : i < 4) (W : World) : (Instr.index 41 (.agg #[.int .i64 c0, .int .i64 c1, .int .i64 c2, .int .i64 c3]) (.int .i64 (i : Int))).run Tryd.prog W = .ok (.int .i64 ([c0, c1, c2, c3] : List Int)[i]) W := by
 have : i = 0 ∨ i = 1 ∨ i = 2 ∨ i = 3 := by omega
 rcases this with rfl | rfl | rfl | rfl <;> rfl
set_option maxHeartbeats 8000000 in
set_option maxRecDepth 100000 in
theorem best_any (g : Nat) (rd : ByteArray) (par A : Option Addr) (kl kc : Nat) (c : Int × Int × Int × Int) (lt fr : Int) (w : World) (h : Nd w g rd par A kl kc c lt) (hs : Sm c) :
  Calls Tryd.prog 26 #[.pointer (some ⟨g, 0, none⟩), .int .i64 fr] w fun e w' => e = .returned (.tuple #[.int .i64 (best4 c fr).1, .int .i64 (best4 c fr).2]) ∧ w' = w := by
 obtain ⟨c0, c1, c2, c3⟩ := c
 have HS := am hs
 obtain ⟨B, hB⟩ : ∃ B, B = best4 (c0, c1, c2, c3) fr := ⟨_, rfl⟩
 rw [← hB]
 have HB := am hB
 have k3 : w.cell? ⟨g, 3, none⟩ = some (.int .i64 c0) := (blk_cell h 3).trans rfl
 have k4 : w.cell? ⟨g, 4, none⟩ = some (.int .i64 c1) := (blk_cell h 4).trans rfl
 have k5 : w.cell? ⟨g, 5, none⟩ = some (.int .i64 c2) := (blk_cell h 5).trans rfl
 have k6 : w.cell? ⟨g, 6, none⟩ = some (.int .i64 c3) := (blk_cell h 6).trans rfl
 clear h hs hB
 go_enter Tryd.func26, Tryd.ntmps26
 go_wp2_with fail
 go_loopg [6, 7, 14] 4 (fun kq v6 v7 v14 w' => ∃ (i : Nat) (a b : Int), v14 = .int .i64 (i : Int) ∧ v6 = .int .i64 a ∧ v7 = .int .i64 b ∧ w' = w ∧ Aside0 (i ≤ 4 ∧ kq = 4 - i) ∧ Aside0 (bestL fr (([c0, c1, c2, c3] : List Int).drop i) (i : Int) a b = B))
 case atStart => exact ⟨0, -1, 0, rfl, rfl, rfl, rfl, ⟨by omega, rfl⟩, ⟨HB.out.symm⟩⟩
 case round =>
  obtain ⟨i, a, b, rfl, rfl, rfl, rfl, HI, HL⟩ := hrel
  by_cases hi : i < 4
  ·have hix := bst_ix c0 c1 c2 c3 i hi
   have hL := HL.out
   rw [bst_get c0 c1 c2 c3 i hi, bestL] at hL
   have hx := HS.out (([c0, c1, c2, c3] : List Int)[i]) (List.getElem_mem _)
   generalize ([c0, c1, c2, c3] : List Int)[i] = x at hix hL hx
   have hwi : wrap64 ((i : Int) + 1) = (i : Int) + 1 := by unfold wrap64; omega
   have hwx : wrap64 (x + 1) = x + 1 := by unfold wrap64; omega
   have b0 : decide ((i : Int) < 4) = true := decide_eq_true (by omega)
   have q0 : (0 ≤ (i : Int)) = True := eq_true (by omega)
   have q1 : ((i : Int) < 4) = True := eq_true (by omega)
   clear hx
   by_cases f0 : 0 ≤ fr
   ·have e0 : decide (0 ≤ fr) = true := decide_eq_true f0
    have e1 : decide (fr ≥ 0) = true := decide_eq_true f0
    by_cases f1 : (i : Int) = fr
    ·have e2 : ((i : Int) != fr) = false := by rw [f1]; exact bne_self_eq_false _
     rw [if_neg (show ¬ (0 ≤ fr ∧ (i : Int) ≠ fr) from fun h => h.2 f1)] at hL
     clear f1
     by_cases a0 : a < 0
     ·have d0 : decide (a < 0) = true := decide_eq_true a0
      rw [if_pos (Or.inl a0)] at hL
      have HN := am (show bestL fr (([c0, c1, c2, c3] : List Int).drop (i + 1)) ((i + 1 : Nat) : Int) (i : Int) (x) = B from hL)
      clear hL HL
      go_wp2_with fail
      go_roundg (4 - (i + 1))
      case measure => have := HI.out; omega
      case rel => exact ⟨i + 1, (i : Int), x, by first | rfl | simp [hwi], rfl, by first | rfl | simp [hwx], rfl, ⟨by omega, rfl⟩, HN⟩
     ·have d0 : decide (a < 0) = false := decide_eq_false a0
      by_cases a1 : x < b
      ·have d1 : decide (x < b) = true := decide_eq_true a1
       rw [if_pos (Or.inr a1)] at hL
       have HN := am (show bestL fr (([c0, c1, c2, c3] : List Int).drop (i + 1)) ((i + 1 : Nat) : Int) (i : Int) (x) = B from hL)
       clear hL HL
       go_wp2_with fail
       go_roundg (4 - (i + 1))
       case measure => have := HI.out; omega
       case rel => exact ⟨i + 1, (i : Int), x, by first | rfl | simp [hwi], rfl, by first | rfl | simp [hwx], rfl, ⟨by omega, rfl⟩, HN⟩
      ·have d1 : decide (x < b) = false := decide_eq_false a1
       rw [if_neg (by omega)] at hL
       have HN := am (show bestL fr (([c0, c1, c2, c3] : List Int).drop (i + 1)) ((i + 1 : Nat) : Int) a (b) = B from hL)
       clear hL HL
       go_wp2_with fail
       go_roundg (4 - (i + 1))
       case measure => have := HI.out; omega
       case rel => exact ⟨i + 1, a, b, by first | rfl | simp [hwi], rfl, by first | rfl | simp [hwx], rfl, ⟨by omega, rfl⟩, HN⟩
    ·have e2 : ((i : Int) != fr) = true := bne_iff_ne.2 f1
     rw [if_pos (show 0 ≤ fr ∧ (i : Int) ≠ fr from ⟨f0, f1⟩)] at hL
     clear f1
     by_cases a0 : a < 0
     ·have d0 : decide (a < 0) = true := decide_eq_true a0
      rw [if_pos (Or.inl a0)] at hL
      have HN := am (show bestL fr (([c0, c1, c2, c3] : List Int).drop (i + 1)) ((i + 1 : Nat) : Int) (i : Int) (x + 1) = B from hL)
      clear hL HL
      go_wp2_with fail
      go_roundg (4 - (i + 1))
      case measure => have := HI.out; omega
      case rel => exact ⟨i + 1, (i : Int), x + 1, by first | rfl | simp [hwi], rfl, by first | rfl | simp [hwx], rfl, ⟨by omega, rfl⟩, HN⟩
     ·have d0 : decide (a < 0) = false := decide_eq_false a0
      by_cases a1 : x + 1 < b
      ·have d1 : decide (x + 1 < b) = true := decide_eq_true a1
       rw [if_pos (Or.inr a1)] at hL
       have HN := am (show bestL fr (([c0, c1, c2, c3] : List Int).drop (i + 1)) ((i + 1 : Nat) : Int) (i : Int) (x + 1) = B from hL)
       clear hL HL
       go_wp2_with fail
       go_roundg (4 - (i + 1))
       case measure => have := HI.out; omega
       case rel => exact ⟨i + 1, (i : Int), x + 1, by first | rfl | simp [hwi], rfl, by first | rfl | simp [hwx], rfl, ⟨by omega, rfl⟩, HN⟩
      ·have d1 : decide (x + 1 < b) = false := decide_eq_false a1
       rw [if_neg (by omega)] at hL
       have HN := am (show bestL fr (([c0, c1, c2, c3] : List Int).drop (i + 1)) ((i + 1 : Nat) : Int) a (b) = B from hL)
       clear hL HL
       go_wp2_with fail
       go_roundg (4 - (i + 1))
       case measure => have := HI.out; omega
       case rel => exact ⟨i + 1, a, b, by first | rfl | simp [hwi], rfl, by first | rfl | simp [hwx], rfl, ⟨by omega, rfl⟩, HN⟩
   ·have e0 : decide (0 ≤ fr) = false := decide_eq_false f0
    have e1 : decide (fr ≥ 0) = false := decide_eq_false f0
    rw [if_neg (show ¬ (0 ≤ fr ∧ (i : Int) ≠ fr) from fun h => f0 h.1)] at hL
    by_cases a0 : a < 0
    ·have d0 : decide (a < 0) = true := decide_eq_true a0
     rw [if_pos (Or.inl a0)] at hL
     have HN := am (show bestL fr (([c0, c1, c2, c3] : List Int).drop (i + 1)) ((i + 1 : Nat) : Int) (i : Int) (x) = B from hL)
     clear hL HL
     go_wp2_with fail
     go_roundg (4 - (i + 1))
     case measure => have := HI.out; omega
     case rel => exact ⟨i + 1, (i : Int), x, by first | rfl | simp [hwi], rfl, by first | rfl | simp [hwx], rfl, ⟨by omega, rfl⟩, HN⟩
    ·have d0 : decide (a < 0) = false := decide_eq_false a0
     by_cases a1 : x < b
     ·have d1 : decide (x < b) = true := decide_eq_true a1
      rw [if_pos (Or.inr a1)] at hL
      have HN := am (show bestL fr (([c0, c1, c2, c3] : List Int).drop (i + 1)) ((i + 1 : Nat) : Int) (i : Int) (x) = B from hL)
      clear hL HL
      go_wp2_with fail
      go_roundg (4 - (i + 1))
      case measure => have := HI.out; omega
      case rel => exact ⟨i + 1, (i : Int), x, by first | rfl | simp [hwi], rfl, by first | rfl | simp [hwx], rfl, ⟨by omega, rfl⟩, HN⟩
     ·have d1 : decide (x < b) = false := decide_eq_false a1
      rw [if_neg (by omega)] at hL
      have HN := am (show bestL fr (([c0, c1, c2, c3] : List Int).drop (i + 1)) ((i + 1 : Nat) : Int) a (b) = B from hL)
      clear hL HL
      go_wp2_with fail
      go_roundg (4 - (i + 1))
      case measure => have := HI.out; omega
      case rel => exact ⟨i + 1, a, b, by first | rfl | simp [hwi], rfl, by first | rfl | simp [hwx], rfl, ⟨by omega, rfl⟩, HN⟩
  ·have ei : i = 4 := by have := HI.out; omega
   subst ei
   have hL := HL.out
   have HE := am (show (a, b) = B from hL)
   clear hL HL
   go_wp2_with fail
   go_ret2
   exact ⟨by rw [← HE.out]; rfl, rfl⟩

/-! ### a stem's nodes -/
def kp : Kd Nat := Kd.scalar (fun g => Value.pointer (some ⟨g, 0, none⟩)) (fun _ => rfl)
def getc (c : Int × Int × Int × Int) : Nat → Int
 | 0 => c.1
 | 1 => c.2.1
 | 2 => c.2.2.1
 | _ => c.2.2.2
def setc (c : Int × Int × Int × Int) (x : Int) : Nat → Int × Int × Int × Int
 | 0 => (x, c.2.1, c.2.2.1, c.2.2.2)
 | 1 => (c.1, x, c.2.2.1, c.2.2.2)
 | 2 => (c.1, c.2.1, x, c.2.2.2)
 | _ => (c.1, c.2.1, c.2.2.1, x)
theorem four (l : Nat) (h : l < 4) : l = 0 ∨ l = 1 ∨ l = 2 ∨ l = 3 := by omega
theorem getc_setc (c : Int × Int × Int × Int) (x : Int) (l m : Nat) (h : l < 4) (h' : m < 4) : getc (setc c x l) m = if m = l then x else getc c m := by
 rcases four l h with rfl | rfl | rfl | rfl <;> rcases four m h' with rfl | rfl | rfl | rfl <;> rfl
theorem setc_setc (c : Int × Int × Int × Int) (x y : Int) (l : Nat) (h : l < 4) : setc (setc c x l) y l = setc c y l := by
 rcases four l h with rfl | rfl | rfl | rfl <;> rfl
theorem c4_ext (c d : Int × Int × Int × Int) (h : ∀ l, l < 4 → getc c l = getc d l) : c = d := by
 have a0 := h 0 (by omega)
 have a1 := h 1 (by omega)
 have a2 := h 2 (by omega)
 have a3 := h 3 (by omega)
 obtain ⟨c0, c1, c2, c3⟩ := c
 obtain ⟨d0, d1, d2, d3⟩ := d
 simp only [getc] at a0 a1 a2 a3
 subst a0 a1 a2 a3
 rfl
theorem Nd.get {W : World} {g : Nat} {rd : ByteArray} {par A : Option Addr} {kl kc : Nat} {c : Int × Int × Int × Int} {lt : Int} (h : Nd W g rd par A kl kc c lt) (l : Nat) (hl : l < 4) : W.cell? ⟨g, 3 + l, none⟩ = some (.int .i64 (getc c l)) := by
 rw [blk_cell h (3 + l)]
 rcases four l hl with rfl | rfl | rfl | rfl <;> rfl
theorem Nd.put {W : World} {g : Nat} {rd : ByteArray} {par A : Option Addr} {kl kc : Nat} {c : Int × Int × Int × Int} {lt : Int} (h : Nd W g rd par A kl kc c lt) (l : Nat) (hl : l < 4) (x : Int) : Nd (W.setCell ⟨g, 3 + l, none⟩ (.int .i64 x)) g rd par A kl kc (setc c x l) lt := by
 refine blk_put h (3 + l) _ ?_
 rcases four l hl with rfl | rfl | rfl | rfl <;> rfl
theorem Nd.putLt {W : World} {g : Nat} {rd : ByteArray} {par A : Option Addr} {kl kc : Nat} {c : Int × Int × Int × Int} {lt : Int} (h : Nd W g rd par A kl kc c lt) (x : Int) : Nd (W.setCell ⟨g, 7, none⟩ (.int .i64 x)) g rd par A kl kc c x := blk_put h 7 _ rfl
structure Td where
 g : Nat → Nat
 rds : Nat → ByteArray
 pa : Nat → Option Nat
 A : Nat → Option Addr
 kc : Nat → Nat
 ch : Nat → List Nat
def upf {α : Type} (f : Nat → α) (i : Nat) (x : α) : Nat → α := fun j => if j = i then x else f j
theorem upf_same {α : Type} (f : Nat → α) (i : Nat) (x : α) : upf f i x i = x := if_pos rfl
theorem upf_ne {α : Type} (f : Nat → α) (i : Nat) (x : α) (j : Nat) (h : j ≠ i) : upf f i x j = f j := if_neg h
theorem upf_upf {α : Type} (f : Nat → α) (i : Nat) (x y : α) : upf (upf f i x) i y = upf f i y := by
 funext j
 unfold upf
 split <;> rfl
def IsTree (W : World) (N n : Nat) (D : Td) (cs : Nat → Int × Int × Int × Int) (lt : Nat → Int) : Prop := ∀ i, i < n → Nd W (D.g i) (D.rds i) ((D.pa i).map fun j => ⟨D.g j, 0, none⟩) (D.A i) (D.ch i).length (D.kc i) (cs i) (lt i) ∧ Kd.F kp W (fun k => k < N ∧ ∀ j, j < n → k ≠ D.g j) (D.A i) (D.ch i).length ((D.ch i).map D.g)
/-- What stays: the nodes' blocks are of the call's own and apart, copies come later. -/
def Sh (base n : Nat) (D : Td) : Prop := (∀ i j, i < n → j < n → D.g i = D.g j → i = j) ∧ (∀ i, i < n → base ≤ D.g i) ∧ (∀ i, i < n → ∀ k ∈ D.ch i, k < n ∧ i < k) ∧ ∀ i, i < n → ∀ j, D.pa i = some j → j < i
theorem IsTree.put {W : World} {base N n : Nat} {D : Td} {cs : Nat → Int × Int × Int × Int} {lt : Nat → Int} (h : IsTree W N n D cs lt) (hS : Sh base n D) (i : Nat) (hi : i < n) (l : Nat) (hl : l < 4) (x : Int) : IsTree (W.setCell ⟨D.g i, 3 + l, none⟩ (.int .i64 x)) N n D (upf cs i (setc (cs i) x l)) lt := by
 intro j hj
 obtain ⟨h1, h3⟩ := h j hj
 refine ⟨?_, Kd.F_far h3 (fun k hk => hk.2 i hi) _⟩
 by_cases e : j = i
 ·subst e
  rw [upf_same]
  exact h1.put l hl x
 ·rw [upf_ne _ _ _ _ e]
  exact blk_far h1 (fun e2 => e (hS.1 j i hj hi e2)) _
theorem IsTree.putLt {W : World} {base N n : Nat} {D : Td} {cs : Nat → Int × Int × Int × Int} {lt : Nat → Int} (h : IsTree W N n D cs lt) (hS : Sh base n D) (i : Nat) (hi : i < n) (x : Int) : IsTree (W.setCell ⟨D.g i, 7, none⟩ (.int .i64 x)) N n D cs (upf lt i x) := by
 intro j hj
 obtain ⟨h1, h3⟩ := h j hj
 refine ⟨?_, Kd.F_far h3 (fun k hk => hk.2 i hi) _⟩
 by_cases e : j = i
 ·subst e
  rw [upf_same]
  exact h1.putLt x
 ·rw [upf_ne _ _ _ _ e]
  exact blk_far h1 (fun e2 => e (hS.1 j i hj hi e2)) _
theorem IsTree.below {W W1 : World} {N n : Nat} {D : Td} {cs : Nat → Int × Int × Int × Int} {lt : Nat → Int} (h : IsTree W N n D cs lt) (hb : Below W.heap.size W W1) : IsTree W1 N n D cs lt := fun j hj => by
 obtain ⟨h1, h3⟩ := h j hj
 exact ⟨blk_below h1 hb, Kd.F_below h3 hb⟩
theorem IsTree.far {W : World} {N n : Nat} {D : Td} {cs : Nat → Int × Int × Int × Int} {lt : Nat → Int} (h : IsTree W N n D cs lt) {p : Addr} (hp : N ≤ p.block) (hne : ∀ j, j < n → D.g j ≠ p.block) (u : Value) : IsTree (W.setCell p u) N n D cs lt := fun j hj => by
 obtain ⟨h1, h3⟩ := h j hj
 exact ⟨blk_far h1 (hne j hj) u, Kd.F_far h3 (fun k hk e => by have := hk.1; omega) u⟩
def addB (cs : Nat → Int × Int × Int × Int) (l : Nat) : List Nat → Int → Int
 | [], a => a
 | k :: r, a => addB cs l r (wrap64 (a + (best4 (cs k) l).2))
def pen (b : Bool) (rd : ByteArray) (p : Int) (l : Nat) : Int := if b = false ∧ bt rd p ≠ 97 + (l : Int) then 1000 else 0
def cnt (b : Bool) (rd : ByteArray) (p : Int) (cs : Nat → Int × Int × Int × Int) (ch : List Nat) (l : Nat) : Int := addB cs l ch (pen b rd p l)
def cnt4 (b : Bool) (rd : ByteArray) (p : Int) (cs : Nat → Int × Int × Int × Int) (ch : List Nat) : Int × Int × Int × Int := (cnt b rd p cs ch 0, cnt b rd p cs ch 1, cnt b rd p cs ch 2, cnt b rd p cs ch 3)
theorem getc_cnt4 (b : Bool) (rd : ByteArray) (p : Int) (cs : Nat → Int × Int × Int × Int) (ch : List Nat) (l : Nat) (h : l < 4) : getc (cnt4 b rd p cs ch) l = cnt b rd p cs ch l := by
 rcases four l h with rfl | rfl | rfl | rfl <;> rfl
theorem upf_self {α : Type} (f : Nat → α) (i : Nat) : upf f i (f i) = f := by
 funext j
 unfold upf
 split
 ·rename_i e
  rw [e]
 ·rfl
theorem IsTree.copy {W : World} {N n : Nat} {D : Td} {cs : Nat → Int × Int × Int × Int} {lt : Nat → Int} (h : IsTree W N n D cs lt) (i : Nat) (hi : i < n) (m : Nat) (hm : m < (D.ch i).length) : ∃ ad, D.A i = some ad ∧ W.cell? (ad.add m) = some (.pointer (some ⟨D.g (D.ch i)[m], 0, none⟩)) := by
 obtain ⟨ad, c, e, _, hk, hc⟩ := Kd.C_get (Kd.F_now (h i hi).2) 0 (m : Int) (by omega) (by omega)
 refine ⟨ad, e, ?_⟩
 have hk' : c = [Value.pointer (some ⟨((D.ch i).map D.g).getD m 0, 0, none⟩)] := hk
 have h0 := hc 0 _ (by rw [hk']; rfl)
 rw [show ((m : Int).toNat * kp.sz + 0) = m from Nat.mul_one m] at h0
 rw [h0]
 simp [List.getD_eq_getElem?_getD, hm]
set_option maxHeartbeats 8000000 in
set_option maxRecDepth 100000 in
theorem count_any (base N n : Nat) (D : Td) (cs : Nat → Int × Int × Int × Int) (lt : Nat → Int) (i : Nat) (p : Int) (b : Bool) (w : World) (h : IsTree w N n D cs lt) (hS : Sh base n D) (hi : i < n) (hp : 0 ≤ p) (hp2 : p < (D.rds i).size) (hl : impl_isLost.f (D.rds i) = some b) (hsm : ∀ k ∈ D.ch i, Sm (cs k)) (hB : base ≤ w.heap.size) :
  Calls Tryd.prog 15 #[.pointer (some ⟨D.g i, 0, none⟩), .int .i64 p] w fun e w' => e = .returned (.tuple #[]) ∧ IsTree w' N n D (upf cs i (cnt4 b (D.rds i) p cs (D.ch i))) lt ∧ KeepBut w w' (D.g i) none ∧ Below base w w' := by
 have hu1 := Tryd.underlying43
 have hu2 := Tryd.underlying41
 have HT0 := am h
 have HSH := am hS
 have HP := am (show 0 ≤ p ∧ p < (D.rds i).size from ⟨hp, hp2⟩)
 have HL := am hl
 have HSM := am hsm
 have HBA := am hB
 have HI := am hi
 clear h hS hp hp2 hl hsm hB hi
 go_enter Tryd.func15, Tryd.ntmps15
 go_wp2_with fail
 go_loopg [9] 4 (fun kq v9 w' => ∃ (l : Nat) (c : Int × Int × Int × Int), v9 = .int .i64 (l : Int) ∧ Aside0 (l ≤ 4 ∧ kq = 4 - l) ∧ Aside0 (∀ m, m < l → getc c m = cnt b (D.rds i) p cs (D.ch i) m) ∧ Aside0 (IsTree w' N n D (upf cs i c) lt) ∧ Aside0 (KeepBut w w' (D.g i) none) ∧ Aside0 (Below base w w'))
 case atStart => exact ⟨0, cs i, rfl, ⟨by omega, rfl⟩, ⟨fun m hm => absurd hm (by omega)⟩, ⟨by rw [upf_self]; exact HT0.out⟩, ⟨KeepBut.refl _ _ _⟩, ⟨Below.refl _ _⟩⟩
 case round =>
  obtain ⟨l, c, rfl, HLL, HC, HT, HK, HB⟩ := hrel
  by_cases hl4 : l < 4
  ·have b0 : decide ((l : Int) < 4) = true := decide_eq_true (by omega)
   have N1 := am (HT.out i HI.out).1
   have q0 : (0 ≤ (l : Int)) = True := eq_true (by omega)
   have q1 : ((l : Int) < 4) = True := eq_true (by omega)
   have hf := fun k => blk_frozen N1.out k
   have k3 := N1.out.get l hl4
   rw [upf_same] at k3
   go_upto_region 4 with fail
   have T2 := am (HT.out.put HSH.out i HI.out l hl4 0)
   rw [upf_same, upf_upf] at T2
   have K2 := am (HK.out.set_ (3 + l) (.int .i64 0))
   have B2 := am (HB.out.setCell (p := ⟨D.g i, 3 + l, none⟩) (HSH.out.2.1 i HI.out) (.int .i64 0))
   generalize wr.setCell ⟨D.g i, 3 + l, none⟩ (.int .i64 0) = w2 at T2 K2 B2 ⊢
   clear HT HK HB N1 hf k3
   go_cut [34] (fun v34 wc => v34 = .bool (!b && (bt (D.rds i) p != 97 + (l : Int))) ∧ Aside0 (IsTree wc N n D (upf cs i (setc c 0 l)) lt) ∧ Aside0 (KeepBut w wc (D.g i) none) ∧ Aside0 (Below base w wc))
   case first =>
    have k0 : w2.cell? ⟨D.g i, 0, none⟩ = some (.string (D.rds i)) := (blk_cell (T2.out i HI.out).1 0).trans rfl
    cases b
    ·have q2 : (0 ≤ p) = True := eq_true HP.out.1
     have q3 : (p < (D.rds i).size) = True := eq_true HP.out.2
     have hx := bt_at (D.rds i) p
     by_cases e : bt (D.rds i) p = 97 + (l : Int)
     ·have e1 : (bt (D.rds i) p != 97 + (l : Int)) = false := bne_eq_false_iff_eq.2 e
      go_wp2_with (first | ((with_reducible refine gate_callee (f := 25) rfl ?_); refine goesL_ (some 21) rfl rfl Tryd.func25 (by kernel_rfl) rfl #[.string (D.rds i)] rfl (by (try simp only [List.map_toArray, List.map_cons, List.map_nil]); first | done | rfl) ?_; (with_reducible refine (impl_isLost.calls (D.rds i) false _ HL.out).mono ?_); rintro e w15 ⟨rfl, hb⟩; refine ⟨_, rfl, ?_⟩; have T3 := am (T2.out.below hb); have K3 := am (K2.out.trans (KeepBut.of_below hb _ none) (.inl rfl)); have B3 := am (below_then B2.out (Nat.le_trans HBA.out K2.out.1) hb); clear T2 K2 B2 hb k0; have k0 : w15.cell? ⟨D.g i, 0, none⟩ = some (.string (D.rds i)) := (blk_cell (T3.out i HI.out).1 0).trans rfl))
      go_meet
      case rel => exact ⟨by rw [e1]; rfl, T3, K3, B3⟩
     ·have e1 : (bt (D.rds i) p != 97 + (l : Int)) = true := bne_iff_ne.2 e
      clear e
      go_wp2_with (first | ((with_reducible refine gate_callee (f := 25) rfl ?_); refine goesL_ (some 21) rfl rfl Tryd.func25 (by kernel_rfl) rfl #[.string (D.rds i)] rfl (by (try simp only [List.map_toArray, List.map_cons, List.map_nil]); first | done | rfl) ?_; (with_reducible refine (impl_isLost.calls (D.rds i) false _ HL.out).mono ?_); rintro e w15 ⟨rfl, hb⟩; refine ⟨_, rfl, ?_⟩; have T3 := am (T2.out.below hb); have K3 := am (K2.out.trans (KeepBut.of_below hb _ none) (.inl rfl)); have B3 := am (below_then B2.out (Nat.le_trans HBA.out K2.out.1) hb); clear T2 K2 B2 hb k0; have k0 : w15.cell? ⟨D.g i, 0, none⟩ = some (.string (D.rds i)) := (blk_cell (T3.out i HI.out).1 0).trans rfl))
      go_meet
      case rel => exact ⟨by rw [e1]; rfl, T3, K3, B3⟩
    ·go_wp2_with (first | ((with_reducible refine gate_callee (f := 25) rfl ?_); refine goesL_ (some 21) rfl rfl Tryd.func25 (by kernel_rfl) rfl #[.string (D.rds i)] rfl (by (try simp only [List.map_toArray, List.map_cons, List.map_nil]); first | done | rfl) ?_; (with_reducible refine (impl_isLost.calls (D.rds i) true _ HL.out).mono ?_); rintro e w15 ⟨rfl, hb⟩; refine ⟨_, rfl, ?_⟩; have T3 := am (T2.out.below hb); have K3 := am (K2.out.trans (KeepBut.of_below hb _ none) (.inl rfl)); have B3 := am (below_then B2.out (Nat.le_trans HBA.out K2.out.1) hb); clear T2 K2 B2 hb k0; have k0 : w15.cell? ⟨D.g i, 0, none⟩ = some (.string (D.rds i)) := (blk_cell (T3.out i HI.out).1 0).trans rfl))
     go_meet
     case rel => exact ⟨rfl, T3, K3, B3⟩
   case rest =>
    obtain ⟨rfl, HT, HK, HB⟩ := hcut
    clear T2 K2 B2
    go_upto_if 34 with fail
    go_cut [] (fun wc2 => Aside0 (IsTree wc2 N n D (upf cs i (setc c (pen b (D.rds i) p l) l)) lt) ∧ Aside0 (KeepBut w wc2 (D.g i) none) ∧ Aside0 (Below base w wc2))
    case first =>
     by_cases e : b = false ∧ bt (D.rds i) p ≠ 97 + (l : Int)
     ·have e2 : pen b (D.rds i) p l = 1000 := if_pos e
      obtain ⟨e3, e4⟩ := e
      subst e3
      have e1 : (!false && (bt (D.rds i) p != 97 + (l : Int))) = true := by rw [bne_iff_ne.2 e4]; rfl
      rw [e1]
      clear e4
      have N3 := am (HT.out i HI.out).1
      have hf := fun k => blk_frozen N3.out k
      have k3 := N3.out.get l hl4
      go_wp2_with fail
      go_meet
      case rel =>
       refine ⟨⟨?_⟩, ⟨HK.out.set_ (3 + l) _⟩, ⟨HB.out.setCell (p := ⟨D.g i, 3 + l, none⟩) (HSH.out.2.1 i HI.out) _⟩⟩
       have h := HT.out.put HSH.out i HI.out l hl4 1000
       rw [upf_same, upf_upf, setc_setc _ _ _ _ hl4] at h
       rw [e2]
       exact h
     ·have e2 : pen b (D.rds i) p l = 0 := if_neg e
      have e1 : (!b && (bt (D.rds i) p != 97 + (l : Int))) = false := by
       cases b
       ·simpa using e
       ·rfl
      rw [e1]
      go_wp2_with fail
      go_meet
      case rel => exact ⟨⟨by rw [e2]; exact HT.out⟩, HK, HB⟩
    case rest =>
     obtain ⟨HT2, HK2, HB2⟩ := hcut
     clear HT HK HB
     have k2 : wc.cell? ⟨D.g i, 2, none⟩ = some (.slice (D.A i) (D.ch i).length (D.kc i)) := (blk_cell (HT2.out i HI.out).1 2).trans rfl
     go_wp2_with fail
     go_loopg [45] (D.ch i).length (fun kq v45 w' => ∃ (m : Nat) (a : Int), v45 = .int .i64 (m : Int) ∧ Aside0 (m ≤ (D.ch i).length ∧ kq = (D.ch i).length - m) ∧ Aside0 (addB cs l ((D.ch i).drop m) a = cnt b (D.rds i) p cs (D.ch i) l) ∧ Aside0 (IsTree w' N n D (upf cs i (setc c a l)) lt) ∧ Aside0 (KeepBut w w' (D.g i) none) ∧ Aside0 (Below base w w'))
     case atStart => exact ⟨0, _, rfl, ⟨by omega, rfl⟩, ⟨rfl⟩, HT2, HK2, HB2⟩
     case round =>
      obtain ⟨m, a, rfl, HM, HA, HT5, HK5, HB5⟩ := hrel
      by_cases hm : m < (D.ch i).length
      ·have b1 : decide ((m : Int) < ((D.ch i).length : Int)) = true := decide_eq_true (by omega)
       obtain ⟨ad, hA, hc⟩ := HT5.out.copy i HI.out m hm
       have hkk := HSH.out.2.2.1 i HI.out _ (List.getElem_mem hm)
       have N5 := am (HT5.out _ hkk.1).1
       rw [upf_ne _ _ _ _ (by omega)] at N5
       rw [hA]
       have q2 : (0 ≤ (m : Int)) = True := eq_true (by omega)
       have q3 : ((m : Int) < ((D.ch i).length : Int)) = True := eq_true (by omega)
       go_upto_region 10 with (first | ((with_reducible refine gate_callee (f := 26) rfl ?_); refine goesL_ (some 52) rfl rfl Tryd.func26 (by kernel_rfl) rfl #[.pointer (some ⟨D.g (D.ch i)[m], 0, none⟩), .int .i64 (l : Int)] rfl (by (try simp only [List.map_toArray, List.map_cons, List.map_nil]); first | done | rfl) ?_; (with_reducible refine (best_any _ _ _ _ _ _ _ _ (l : Int) _ N5.out (HSM.out _ (List.getElem_mem hm))).mono ?_); rintro e w15 ⟨rfl, rfl⟩; refine ⟨_, rfl, ?_⟩))
       clear k2 q2 q3 b1 hc
       have k4 := (HT5.out i HI.out).1.get l hl4
       rw [upf_same, getc_setc _ _ _ _ hl4 hl4, if_pos rfl] at k4
       refine start_ (n := 12) (S := fun w' => w'.cell? ⟨D.g i, 3 + l, none⟩ = some (.int .i64 a)) (ds := [11]) #[F,F,F,F,F,F,F,F,F,F,F,F] (by kernel_rfl) rfl rfl k4 (fun hHeld => ?_)
       clear k4
       have HT6 := am (HT5.out.below (below_drew1 (Below.refl _ _)))
       have HK6 := am (keep_drew HK5.out)
       have HB6 := am (below_drew HB5.out)
       clear HT5 HK5 HB5
       generalize w15.drew = w6 at HT6 HK6 HB6 hHeld ⊢
       refine pz 0 (some 55) #[T,F,F,F,F,F,F,F,F,F,F,F] (by kernel_rfl) (h := ?_)
       refine pz 1 (some 56) #[T,T,F,F,F,F,F,F,F,F,F,F] (by kernel_rfl) (h := ?_)
       refine pz 2 (some 57) #[T,T,T,F,F,F,F,F,F,F,F,F] (by kernel_rfl) (h := ?_)
       refine pz 3 (some 58) #[T,T,T,T,F,F,F,F,F,F,F,F] (by kernel_rfl) (h := ?_)
       refine pz 4 (some 59) #[T,T,T,T,T,F,F,F,F,F,F,F] (by kernel_rfl) (h := ?_)
       refine tz hHeld 5 (some 60) #[T,T,T,T,T,T,F,F,F,F,F,F] (by kernel_rfl) (h := ?_)
       refine pz 6 (some 61) #[T,T,T,T,T,T,T,F,F,F,F,F] (by kernel_rfl) (h := ?_)
       refine pz 7 (some 62) #[T,T,T,T,T,T,T,T,F,F,F,F] (by kernel_rfl) (h := ?_)
       refine pz 8 (some 63) #[T,T,T,T,T,T,T,T,T,F,F,F] (by kernel_rfl) (h := ?_)
       refine pz 9 (some 64) #[T,T,T,T,T,T,T,T,T,T,F,F] (by kernel_rfl) (h := ?_)
       refine pz 10 (some 65) #[T,T,T,T,T,T,T,T,T,T,T,F] (by kernel_rfl) (h := ?_)
       clear hHeld
       have qf := fun k => blk_frozen (HT6.out i HI.out).1 k
       have q6 := (HT6.out i HI.out).1.get l hl4
       refine last_ (i := 11) (N := none) #[T,T,T,T,T,T,T,T,T,T,T,T] rfl rfl (by kernel_rfl) (by decide) (fun K hK => ?_)
       refine skip_ (w1 := ?_) (by rfl) rfl ?_ ?_
       rotate_left
       ·go_simp
        rfl
       refine hK.out _ _ ?_
       clear hK K
       refine done_ (by kernel_rfl) ?_
       clear qf q6
       have hw : wrap64 ((m : Int) + 1) = ((m + 1 : Nat) : Int) := by unfold wrap64; have := (Kd.F_max (HT6.out i HI.out).2); omega
       go_wp2_with fail
       rw [← hA]
       go_roundg ((D.ch i).length - (m + 1))
       case measure => have := HM.out; omega
       case rel =>
        refine ⟨m + 1, wrap64 (a + (best4 (cs (D.ch i)[m]) (l : Int)).2), by first | rfl | simp [hw], ⟨by omega, rfl⟩, ⟨?_⟩, ⟨?_⟩, ⟨HK6.out.set_ (3 + l) _⟩, ⟨HB6.out.setCell (p := ⟨D.g i, 3 + l, none⟩) (HSH.out.2.1 i HI.out) _⟩⟩
        ·have h := HA.out
         rw [List.drop_eq_getElem_cons hm, addB] at h
         exact h
        ·have h := HT6.out.put HSH.out i HI.out l hl4 (wrap64 (a + (best4 (cs (D.ch i)[m]) (l : Int)).2))
         rw [upf_same, upf_upf, setc_setc _ _ _ _ hl4] at h
         exact h
      ·have em : m = (D.ch i).length := by have := HM.out; omega
       subst em
       have b1 : decide (((D.ch i).length : Int) < ((D.ch i).length : Int)) = false := decide_eq_false (by omega)
       have HE := am (show getc (setc c a l) l = cnt b (D.rds i) p cs (D.ch i) l by rw [getc_setc _ _ _ _ hl4 hl4, if_pos rfl]; have h := HA.out; rw [List.drop_length] at h; exact h)
       have hw : wrap64 ((l : Int) + 1) = ((l + 1 : Nat) : Int) := by unfold wrap64; omega
       clear k2
       go_wp2_with fail
       go_roundg (4 - (l + 1))
       case measure => have := HLL.out; omega
       case rel =>
        refine ⟨l + 1, setc c a l, by first | rfl | simp [hw], ⟨by omega, rfl⟩, ⟨fun q hq => ?_⟩, HT5, HK5, HB5⟩
        by_cases eq : q = l
        ·subst eq
         exact HE.out
        ·rw [getc_setc _ _ _ _ hl4 (by omega), if_neg eq]
         exact HC.out q (by omega)
  ·have el : l = 4 := by have := HLL.out; omega
   subst el
   go_wp2_with fail
   go_end0
   refine ⟨rfl, ?_, HK.out, HB.out⟩
   rw [show cnt4 b (D.rds i) p cs (D.ch i) = c from c4_ext _ _ (fun m hm => by rw [getc_cnt4 _ _ _ _ _ _ hm, HC.out m hm])]
   exact HT.out
def fromOf (D : Td) (lt : Nat → Int) (i : Nat) : Int := match D.pa i with
 | none => -1
 | some j => lt j
set_option maxHeartbeats 8000000 in
set_option maxRecDepth 100000 in
theorem choose_any (base N n : Nat) (D : Td) (cs : Nat → Int × Int × Int × Int) (lt : Nat → Int) (i : Nat) (w : World) (h : IsTree w N n D cs lt) (hS : Sh base n D) (hi : i < n) (hsm : Sm (cs i)) :
  Calls Tryd.prog 16 #[.pointer (some ⟨D.g i, 0, none⟩)] w fun e w' => e = .returned (.tuple #[]) ∧ IsTree w' N n D cs (upf lt i (best4 (cs i) (fromOf D lt i)).1) ∧ KeepBut w w' (D.g i) none ∧ Below base w w' := by
 have hu1 := Tryd.underlying43
 have HT := am h
 have HSH := am hS
 have HSM := am hsm
 have HI := am hi
 have N0 := am (h i hi).1
 have k1 : w.cell? ⟨D.g i, 1, none⟩ = some (.pointer ((D.pa i).map fun j => ⟨D.g j, 0, none⟩)) := (blk_cell N0.out 1).trans rfl
 have hf := fun k => blk_frozen N0.out k
 have k7 : w.cell? ⟨D.g i, 7, none⟩ = some (.int .i64 (lt i)) := (blk_cell N0.out 7).trans rfl
 clear h hS hsm hi
 obtain ⟨j, hj⟩ : ∃ j, j = D.pa i := ⟨_, rfl⟩
 rw [← hj] at k1 N0
 obtain ⟨fr, hfr⟩ : ∃ fr, fr = fromOf D lt i := ⟨_, rfl⟩
 have HFR := am hfr
 unfold fromOf at hfr
 rw [← hj] at hfr
 have HJ := am hj
 clear hj
 cases j with
 | none =>
  dsimp only at hfr
  have HX := am hfr
  clear hfr
  rw [← HFR.out, HX.out]
  clear HX HFR
  go_enter Tryd.func16, Tryd.ntmps16
  go_wp2_with (first | ((with_reducible refine gate_callee (f := 26) rfl ?_); refine goesL_ (some 19) rfl rfl Tryd.func26 (by kernel_rfl) rfl #[.pointer (some ⟨D.g i, 0, none⟩), .int .i64 (-1)] rfl (by (try simp only [List.map_toArray, List.map_cons, List.map_nil]); first | done | rfl) ?_; (with_reducible refine (best_any _ _ _ _ _ _ _ _ (-1) _ N0.out HSM.out).mono ?_); rintro e w15 ⟨rfl, rfl⟩; refine ⟨_, rfl, ?_⟩))
  go_end0
  exact ⟨rfl, HT.out.putLt HSH.out i HI.out _, (KeepBut.refl _ _ _).set_ 7 _, (Below.refl _ _).setCell (p := ⟨D.g i, 7, none⟩) (HSH.out.2.1 i HI.out) _⟩
 | some j =>
  dsimp only at hfr
  have HX := am hfr
  have hji := HSH.out.2.2.2 i HI.out j HJ.out.symm
  have k9 : w.cell? ⟨D.g j, 7, none⟩ = some (.int .i64 (lt j)) := (blk_cell (HT.out j (Nat.lt_trans hji HI.out)).1 7).trans rfl
  rw [← hfr] at k9
  clear hfr
  rw [← HFR.out]
  go_enter Tryd.func16, Tryd.ntmps16
  go_wp2_with (first | ((with_reducible refine gate_callee (f := 26) rfl ?_); refine goesL_ (some 19) rfl rfl Tryd.func26 (by kernel_rfl) rfl #[.pointer (some ⟨D.g i, 0, none⟩), .int .i64 fr] rfl (by (try simp only [List.map_toArray, List.map_cons, List.map_nil]); first | done | rfl) ?_; (with_reducible refine (best_any _ _ _ _ _ _ _ _ fr _ N0.out HSM.out).mono ?_); rintro e w15 ⟨rfl, rfl⟩; refine ⟨_, rfl, ?_⟩))
  go_end0
  exact ⟨rfl, HT.out.putLt HSH.out i HI.out _, (KeepBut.refl _ _ _).set_ 7 _, (Below.refl _ _).setCell (p := ⟨D.g i, 7, none⟩) (HSH.out.2.1 i HI.out) _⟩

/-! ### the tree of a stem -/
theorem infoN : (Tryd.prog.info? 39).map (fun i => (i.zero, i.size, i.bytes)) = some (some (.pointer none), 1, 8) := by kernel_rfl
def NB (W : World) (a : Nat) (rd : ByteArray) (pp : Option Addr) (v : Value) : Prop := W.heap[a]? = some (.cells #[.string rd, .pointer pp, v, .int .i64 0, .int .i64 0, .int .i64 0, .int .i64 0, .int .i64 0] 43 (0, 0))
def Gr (W : World) (base i : Nat) (g : Nat → Nat) (V : Nat → Value) (rds : Nat → ByteArray) (pa : Nat → Option Nat) (ch : Nat → List Nat) : Prop :=
 (∀ j, j < i → NB W (g j) (rds j) ((pa j).map fun p => ⟨g p, 0, none⟩) (V j) ∧ base ≤ g j ∧ kp.R 39 W base (fun _ => True) (V j) ((ch j).map g)) ∧
 ∀ j j', j < i → j' < i → j ≠ j' → g j ≠ g j' ∧ ∀ k, (V j).ownBlock = some k → (V j').ownBlock ≠ some k
theorem kpne : ∀ q, q ∈ 39 :: kp.E → q ≠ 43 := by
 intro q hq
 rcases List.mem_cons.1 hq with rfl | h
 ·decide
 ·exact absurd h (List.not_mem_nil)
section
variable {W W1 : World} {base i : Nat} {g g' : Nat → Nat} {V V' : Nat → Value} {rds : Nat → ByteArray} {pa : Nat → Option Nat} {ch ch' : Nat → List Nat}
theorem Gr.congr (h : Gr W base i g V rds pa ch) (hg : ∀ j, j < i → g' j = g j) (hV : ∀ j, j < i → V' j = V j) (hp : ∀ j, j < i → ∀ p, pa j = some p → p < i) (hc : ∀ j, j < i → ∀ k ∈ ch j, k < i) (hcc : ∀ j, j < i → ch' j = ch j) : Gr W base i g' V' rds pa ch' := by
 refine ⟨fun j hj => ?_, fun j j' hj hj' hne => ?_⟩
 ·obtain ⟨h1, h2, h3⟩ := h.1 j hj
  rw [hg j hj, hV j hj, hcc j hj]
  refine ⟨?_, h2, ?_⟩
  ·have e : (pa j).map (fun p => (⟨g' p, 0, none⟩ : Addr)) = (pa j).map (fun p => ⟨g p, 0, none⟩) := by
    cases hpj : pa j with
    | none => rfl
    | some p => simp only [Option.map_some, hg p (hp j hj p hpj)]
   rw [e]
   exact h1
  ·rw [show (ch j).map g' = (ch j).map g from List.map_congr_left (fun k hk => hg k (hc j hj k hk))]
   exact h3
 ·rw [hg j hj, hg j' hj', hV j hj, hV j' hj']
  exact h.2 j j' hj hj' hne
theorem Gr.below (h : Gr W base i g V rds pa ch) (hb : Below W.heap.size W W1) : Gr W1 base i g V rds pa ch :=
 ⟨fun j hj => ⟨blk_below (h.1 j hj).1 hb, (h.1 j hj).2.1, Kd.R_below (h.1 j hj).2.2 hb⟩, h.2⟩
theorem Gr.set (h : Gr W base i g V rds pa ch) {a : Nat} {cs : Array Value} (hb : W.heap[a]? = some (.cells cs 43 (0, 0))) (hne : ∀ j, j < i → g j ≠ a) (o : Nat) (u : Value) : Gr (W.setCell ⟨a, o, none⟩ u) base i g V rds pa ch :=
 ⟨fun j hj => ⟨blk_far (h.1 j hj).1 (hne j hj) u, (h.1 j hj).2.1, Kd.R_set (h.1 j hj).2.2 hb kpne o u⟩, h.2⟩
theorem Gr.row (h : Gr W base i g V rds pa ch) {vN : Value} {xs : List Nat} (hN : kp.R 39 W base (fun _ => True) vN xs) (hne : ∀ j, j < i → ∀ k, vN.ownBlock = some k → (V j).ownBlock ≠ some k) (hg : W.grownBy W1 vN.ownBlock) : Gr W1 base i g V rds pa ch := by
 refine ⟨fun j hj => ?_, h.2⟩
 obtain ⟨h1, h2, h3⟩ := h.1 j hj
 exact ⟨blk_grown h1 hg (Kd.R_ne hN h1 (by decide)), h2, Kd.R_grown2 h3 rfl hg (fun k hk e => hne j hj k hk e.symm)⟩
theorem Gr.fresh (h : Gr W base i g V rds pa ch) {v v1 : Value} (hne : ∀ j, j < i → ∀ k, v.ownBlock = some k → (V j).ownBlock ≠ some k) (hat : v1.ownBlock = v.ownBlock ∨ ∃ b, v1.ownBlock = some b ∧ W.heap.size ≤ b) : ∀ j, j < i → ∀ k, v1.ownBlock = some k → (V j).ownBlock ≠ some k := by
 intro j hj k hk
 rcases hat with hat | ⟨b, hb, hle⟩
 ·exact hne j hj k (hat ▸ hk)
 ·intro e
  have := Kd.R_lt (h.1 j hj).2.2 k e
  rw [hb] at hk
  cases hk
  omega
theorem Gr.app (h : Gr W base i g V rds pa ch) {p : Nat} (hp : p < i) {v1 : Value} (ho : kp.R 39 W1 base (fun _ => True) v1 ((ch p).map g ++ [g i])) (hg : W.grownBy W1 (V p).ownBlock) (hat : v1.ownBlock = (V p).ownBlock ∨ ∃ b, v1.ownBlock = some b ∧ W.heap.size ≤ b) : Gr (W1.setCell ⟨g p, 2, none⟩ v1) base i g (upf V p v1) rds pa (upf ch p (ch p ++ [i])) := by
 have hb1 : NB W1 (g p) (rds p) ((pa p).map fun p => ⟨g p, 0, none⟩) (V p) := blk_grown (h.1 p hp).1 hg (Kd.R_ne (h.1 p hp).2.2 (h.1 p hp).1 (by decide))
 have hf : ∀ j, j < i → j ≠ p → ∀ k, v1.ownBlock = some k → (V j).ownBlock ≠ some k := by
  intro j hj hjp k hk e
  rcases hat with hat | ⟨b, hb, hle⟩
  ·exact (h.2 p j hp hj (Ne.symm hjp)).2 k (hat ▸ hk) e
  ·have := Kd.R_lt (h.1 j hj).2.2 k e
   rw [hb] at hk
   cases hk
   omega
 refine ⟨fun j hj => ?_, fun j j' hj hj' hne => ⟨(h.2 j j' hj hj' hne).1, fun k hk => ?_⟩⟩
 ·obtain ⟨h1, h2, h3⟩ := h.1 j hj
  by_cases e : j = p
  ·subst e
   rw [upf_same, upf_same, List.map_append]
   exact ⟨blk_put hb1 2 v1 rfl, h2, Kd.R_set ho hb1 kpne 2 v1⟩
  ·rw [upf_ne _ _ _ _ e, upf_ne _ _ _ _ e]
   have hx := (h.2 j p hj hp e)
   refine ⟨blk_far (blk_grown h1 hg (Kd.R_ne (h.1 p hp).2.2 h1 (by decide))) hx.1 _, h2, Kd.R_set (Kd.R_grown2 h3 rfl hg (fun k hk ek => ?_)) hb1 kpne 2 v1⟩
   exact hx.2 k ek.symm hk
 ·by_cases e : j = p
  ·subst e
   rw [upf_same] at hk
   rw [upf_ne _ _ _ _ (Ne.symm hne)]
   exact hf j' hj' (Ne.symm hne) k hk
  ·rw [upf_ne _ _ _ _ e] at hk
   by_cases e' : j' = p
   ·subst e'
    rw [upf_same]
    intro hk1
    exact hf j hj e k hk1 hk
   ·rw [upf_ne _ _ _ _ e']
    exact (h.2 j j' hj hj' hne).2 k hk
theorem Gr.more (h : Gr W base i g V rds pa ch) (hn : NB W (g i) (rds i) ((pa i).map fun p => ⟨g p, 0, none⟩) (.slice none 0 0)) (hb : base ≤ g i) (hd : ∀ j, j < i → g j ≠ g i) (hV : V i = .slice none 0 0) (hc : ch i = []) : Gr W base (i + 1) g V rds pa ch := by
 refine ⟨fun j hj => ?_, fun j j' hj hj' hne => ?_⟩
 ·by_cases e : j = i
  ·subst e
   rw [hV, hc]
   exact ⟨hn, hb, Kd.R_nil _ _ _ _ _⟩
  ·exact h.1 j (by omega)
 ·by_cases e : j = i
  ·subst e
   refine ⟨Ne.symm (hd j' (by omega)), fun k hk => ?_⟩
   rw [hV] at hk
   simp [Value.ownBlock] at hk
  ·by_cases e' : j' = i
   ·subst e'
    refine ⟨hd j (by omega), fun k hk => ?_⟩
    rw [hV]
    simp [Value.ownBlock]
   ·exact h.2 j j' (by omega) (by omega) hne
end
def slA : Value → Option Addr
 | .slice A _ _ => A
 | _ => none
def slC : Value → Nat
 | .slice _ _ c => c
 | _ => 0
theorem Gr.tree {W : World} {base n : Nat} {g : Nat → Nat} {V : Nat → Value} {rds : Nat → ByteArray} {pa : Nat → Option Nat} {ch : Nat → List Nat} (h : Gr W base n g V rds pa ch) : IsTree W W.heap.size n ⟨g, rds, pa, fun j => slA (V j), fun j => slC (V j), ch⟩ (fun _ => (0, 0, 0, 0)) (fun _ => 0) := by
 intro j hj
 obtain ⟨h1, h2, h3⟩ := h.1 j hj
 obtain ⟨A, c, e⟩ := Kd.R_slice h3
 rw [List.length_map] at e
 refine ⟨?_, ?_⟩
 ·have h4 := h1
  rw [e] at h4
  show Nd W (g j) (rds j) _ (slA (V j)) (ch j).length (slC (V j)) _ _
  rw [e]
  exact h4
 ·show Kd.F kp W _ (slA (V j)) (ch j).length ((ch j).map g)
  rw [e] at h3 ⊢
  refine Kd.F_mono (Kd.R_F (Kd.R_bound h3)) (fun k hk => ⟨hk.2.2.1, fun j' hj' => ?_⟩)
  obtain ⟨_, _, _, q, hq, cells, hcells⟩ := hk
  intro e2
  subst e2
  exact blk_ne hcells (h.1 j' hj').1 (kpne q hq) rfl
def chS (l1 : List Int) (i j : Nat) : List Nat := (List.range i).filter (fun k => decide (0 < k) && decide (rd l1 (k : Int) = (j : Int)))
theorem chS_lt (l1 : List Int) (i j k : Nat) (h : k ∈ chS l1 i j) : k < i := List.mem_range.1 (List.mem_filter.1 h).1
theorem chS_mem (l1 : List Int) (i j k : Nat) (h : k ∈ chS l1 i j) : k < i ∧ 0 < k ∧ rd l1 (k : Int) = (j : Int) := by
 have h2 := (List.mem_filter.1 h).2
 simp only [Bool.and_eq_true, decide_eq_true_eq] at h2
 exact ⟨chS_lt l1 i j k h, h2.1, h2.2⟩
theorem chS_step (l1 : List Int) (i p : Nat) (hi : 0 < i) (hp : rd l1 (i : Int) = (p : Int)) : chS l1 (i + 1) = upf (chS l1 i) p (chS l1 i p ++ [i]) := by
 funext j
 unfold upf chS
 rw [List.range_succ, List.filter_append]
 by_cases e : j = p
 ·subst e
  rw [if_pos rfl]
  congr 1
  simp [hi, hp]
 ·rw [if_neg e]
  have : ¬ rd l1 (i : Int) = (j : Int) := by rw [hp]; omega
  simp [this]
theorem chS_zero (l1 : List Int) : chS l1 1 = chS l1 0 := by
 funext j
 rfl
def paS (l1 : List Int) (j : Nat) : Option Nat := if j = 0 then none else some (rd l1 (j : Int)).toNat
def StemOk (n : Nat) (l1 : List Int) : Prop := ∀ k, 0 < k → k < n → 0 ≤ rd l1 (k : Int) ∧ rd l1 (k : Int) < (k : Int)
theorem chS_len (l1 : List Int) (i j : Nat) : (chS l1 i j).length ≤ i := Nat.le_trans (List.length_filter_le _ _) (by rw [List.length_range]; exact Nat.le_refl _)
theorem kp_at {W : World} {A : Option Addr} {n : Nat} {xs : List Nat} (h : kp.C W A n xs) (m : Nat) (hm : m < xs.length) : ∃ ad, A = some ad ∧ W.cell? (ad.add m) = some (.pointer (some ⟨xs[m], 0, none⟩)) := by
 obtain ⟨ad, c, e, _, hk, hc⟩ := Kd.C_get h 0 (m : Int) (by omega) (by have := h.1; omega)
 refine ⟨ad, e, ?_⟩
 have hk' : c = [Value.pointer (some ⟨xs.getD m 0, 0, none⟩)] := hk
 have h0 := hc 0 _ (by rw [hk']; rfl)
 rw [show ((m : Int).toNat * kp.sz + 0) = m from Nat.mul_one m] at h0
 rw [h0]
 simp [List.getD_eq_getElem?_getD, hm]
set_option maxHeartbeats 8000000 in
set_option maxRecDepth 100000 in
theorem stemTree_any (A0 : Option Addr) (c0 : Nat) (l0 : List ByteArray) (A1 : Option Addr) (c1 : Nat) (l1 : List Int) (w : World) (hr0 : Kd.C Kd.string w A0 l0.length l0) (hc0 : l0.length ≤ c0) (hr1 : Kd.C (Kd.int .i64) w A1 l1.length l1) (hc1 : l1.length ≤ c1) (hl : l1.length = l0.length) (h100 : l0.length ≤ 100) (hS : StemOk l0.length l1) :
  Calls Tryd.prog 14 #[.slice A0 l0.length c0, .slice A1 l1.length c1] w fun e w' => ∃ (D : Td) (AN : Option Addr) (cN : Nat), e = .returned (.slice AN l0.length cN) ∧ IsTree w' w'.heap.size l0.length D (fun _ => (0, 0, 0, 0)) (fun _ => 0) ∧ Sh w.heap.size l0.length D ∧ Kd.F kp w' (fun k => k < w'.heap.size ∧ ∀ j, j < l0.length → k ≠ D.g j) AN l0.length ((List.range l0.length).map D.g) ∧ Below w.heap.size w w' ∧ (D.rds = fun (j : Nat) => rdOf ByteArray.empty l0 (j : Int)) ∧ D.pa = paS l1 ∧ D.ch = chS l1 l0.length := by
 have hu1 := Tryd.underlying43
 have HR0 := am hr0
 have HC0 := am hc0
 have HR1 := am hr1
 have HC1 := am hc1
 have HL := am hl
 have HH := am h100
 have HS := am hS
 have HB := am (Below.refl w.heap.size w)
 clear hr0 hc0 hr1 hc1 hl h100 hS
 go_enter Tryd.func14, Tryd.ntmps14
 go_wp2_with (first | ((with_reducible refine gate_dst (N := 9) rfl ?_); refine Kd.R_lit kp _ 39 ?hg (N := 9) ?hd (xs := ([] : List Nat)) (inner := []) (ok := fun _ => True) (okp := fun _ => True) ?hr ?hp (fun _ hk => hk) trivial (Below.refl _ _) (Nat.le_refl _) (by simp) ?_; (case hd => rfl); (case hg => rfl); (case hr => first | (go_simp; done) | (go_simp; rfl)); (case hp => exact (Reps.none _ _)); intro vN w5 ho6 hb hg_ hnew_; have HN := am (Kd.R_lower ho6 (below_size (bu HB.out))); have HB2 := am (below_step (bu HB.out) hb); clear HB; have HB := HB2; clear HB2 hg_ hnew_ ho6 hb))
 go_loopg [5, 12] l0.length (fun kq v5 v12 w' => ∃ (i : Nat) (g : Nat → Nat) (V : Nat → Value), v12 = .int .i64 (i : Int) ∧ Aside0 (i ≤ l0.length ∧ kq = l0.length - i) ∧ Aside0 (Gr w' w.heap.size i g V (fun (j : Nat) => rdOf ByteArray.empty l0 (j : Int)) (paS l1) (chS l1 i)) ∧ Aside0 (kp.R 39 w' w.heap.size (fun _ => True) v5 ((List.range i).map g)) ∧ Aside0 (∀ j, j < i → ∀ k, v5.ownBlock = some k → (V j).ownBlock ≠ some k) ∧ Aside0 (Below w.heap.size w w'))
 case atStart => exact ⟨0, fun _ => 0, fun _ => .slice none 0 0, rfl, ⟨by omega, rfl⟩, ⟨⟨fun j hj => absurd hj (by omega), fun j j' hj => absurd hj (by omega)⟩⟩, HN, ⟨fun j hj => absurd hj (by omega)⟩, HB⟩
 case round =>
  obtain ⟨i, g, V, rfl, HI, HG, HN, HD, HB⟩ := hrel
  by_cases hi : i < l0.length
  ·have b1 : decide ((i : Int) < (l0.length : Int)) = true := decide_eq_true (by omega)
   have q2 : (0 ≤ (i : Int)) = True := eq_true (by omega)
   have q3 : ((i : Int) < (l0.length : Int)) = True := eq_true (by omega)
   obtain ⟨ad0, e0, hx0⟩ := Kd.at_string HR0.out (i : Int) (by omega) (by omega)
   cases e0
   simp only [Int.toNat_natCast] at hx0
   replace hx0 := (HB.out.cell (World.block_lt_of_cell? w _ hx0)).trans hx0
   obtain ⟨rdi, hrdi⟩ : ∃ r, r = rdOf ByteArray.empty l0 (i : Int) := ⟨_, rfl⟩
   rw [← hrdi] at hx0
   have HRD := am hrdi
   clear hrdi
   go_upto_region 6 with fail
   obtain ⟨gi, hgi⟩ : ∃ gi, gi = wr.heap.size := ⟨_, rfl⟩
   obtain ⟨g', hg'⟩ : ∃ g', g' = upf g i gi := ⟨_, rfl⟩
   obtain ⟨V', hV'⟩ : ∃ V', V' = upf V i (.slice none 0 0) := ⟨_, rfl⟩
   have EGI := am (show g' i = gi by rw [hg', upf_same])
   have EVI := am (show V' i = .slice none 0 0 by rw [hV', upf_same])
   have hgj : ∀ j, j < i → g' j = g j := fun j hj => by rw [hg', upf_ne _ _ _ _ (by omega)]
   have hVj : ∀ j, j < i → V' j = V j := fun j hj => by rw [hV', upf_ne _ _ _ _ (by omega)]
   have HPA := am (show ∀ j, j < i → ∀ p, paS l1 j = some p → p < i from fun j hj p hp => by
    unfold paS at hp
    split at hp
    ·cases hp
    ·cases hp
     have h2 := HS.out j (by omega) (by omega)
     omega)
   have hG0 := HG.out.congr hgj hVj HPA.out (fun j _ k hk => chS_lt l1 i j k hk) (fun _ _ => rfl)
   have HDD := am (show ∀ j, j < i → ∀ k, u5.ownBlock = some k → (V' j).ownBlock ≠ some k from fun j hj k hk => by rw [hVj j hj]; exact HD.out j hj k hk)
   have hN0 := HN.out
   rw [show (List.range i).map g = (List.range i).map g' from List.map_congr_left (fun k hk => (hgj k (List.mem_range.1 hk)).symm)] at hN0
   have HNE := am (show ∀ j, j < i → g' j ≠ gi from fun j hj => by
    have := blk_lt (hG0.1 j hj).1
    omega)
   have G1 := am (hG0.below (below_alloc (Below.refl _ _) (.cells #[.string rdi, .pointer none, .slice none 0 0, .int .i64 0, .int .i64 0, .int .i64 0, .int .i64 0, .int .i64 0] 43)))
   have N1 := am (show NB (wr.alloc (.cells #[.string rdi, .pointer none, .slice none 0 0, .int .i64 0, .int .i64 0, .int .i64 0, .int .i64 0, .int .i64 0] 43)) gi rdi none (.slice none 0 0) by rw [hgi]; exact blk_new _ _)
   have HN1 := am (Kd.R_alloc hN0 (.cells #[.string rdi, .pointer none, .slice none 0 0, .int .i64 0, .int .i64 0, .int .i64 0, .int .i64 0, .int .i64 0] 43))
   have B1 := am (below_alloc HB.out (.cells #[.string rdi, .pointer none, .slice none 0 0, .int .i64 0, .int .i64 0, .int .i64 0, .int .i64 0, .int .i64 0] 43))
   have HGE := am (show w.heap.size ≤ gi by rw [hgi]; exact HB.out.size)
   rw [← hgi]
   clear hG0 hN0 HG HN HD hg' hV' hgj hVj HB hx0
   generalize wr.alloc (.cells #[.string rdi, .pointer none, .slice none 0 0, .int .i64 0, .int .i64 0, .int .i64 0, .int .i64 0, .int .i64 0] 43) = w1 at G1 N1 HN1 B1 ⊢
   clear hgi
   obtain ⟨AN, cN, eN⟩ := Kd.R_slice HN1.out
   rw [List.length_map, List.length_range] at eN
   subst eN
   go_upto_if 21 with fail
   go_cut [21] (fun v21 wc => ∃ V2, Aside0 (Gr wc w.heap.size i g' V2 (fun (j : Nat) => rdOf ByteArray.empty l0 (j : Int)) (paS l1) (chS l1 (i + 1))) ∧ Aside0 (NB wc gi rdi ((paS l1 i).map fun p => ⟨g' p, 0, none⟩) (.slice none 0 0)) ∧ Aside0 (kp.R 39 wc w.heap.size (fun _ => True) (.slice AN i cN) ((List.range i).map g')) ∧ Aside0 (∀ j, j < i → ∀ k, (Value.slice AN i cN).ownBlock = some k → (V2 j).ownBlock ≠ some k) ∧ Aside0 (Below w.heap.size w wc) ∧ Aside0 (V2 i = .slice none 0 0))
   case first =>
    by_cases h0 : i = 0
    ·have e1 : decide (0 < (i : Int)) = false := decide_eq_false (by omega)
     have e2 : decide ((i : Int) > 0) = false := decide_eq_false (by omega)
     go_wp2_with fail
     go_meet
     case rel => exact ⟨V', ⟨by rw [h0, chS_zero]; rw [h0] at G1; exact G1.out⟩, ⟨by rw [show paS l1 i = none from if_pos h0]; exact N1.out⟩, HN1, HDD, B1, EVI⟩
    ·have e1 : decide (0 < (i : Int)) = true := decide_eq_true (by omega)
     have e2 : decide ((i : Int) > 0) = true := decide_eq_true (by omega)
     have hSi := HS.out i (by omega) hi
     obtain ⟨p, hp⟩ : ∃ p : Nat, rd l1 (i : Int) = (p : Int) := ⟨(rd l1 (i : Int)).toNat, by omega⟩
     have HP := am hp
     have hpi : p < i := by omega
     obtain ⟨ad1, e3, hx1⟩ := Kd.at_int HR1.out (i : Int) (by omega) (by have := HL.out; omega)
     cases e3
     simp only [Int.toNat_natCast] at hx1
     rw [hp] at hx1
     replace hx1 := (B1.out.cell (World.block_lt_of_cell? w _ hx1)).trans hx1
     obtain ⟨adN, e4, hx2⟩ := kp_at (Kd.R_reads' HN1.out).2.2 p (by rw [List.length_map, List.length_range]; exact hpi)
     cases e4
     rw [show ((List.range i).map g')[p]'(by rw [List.length_map, List.length_range]; exact hpi) = g' p by simp] at hx2
     have q4 : ((i : Int) < (l1.length : Int)) = True := eq_true (by have := HL.out; omega)
     have q5 : (0 ≤ (p : Int)) = True := eq_true (by omega)
     have q6 : ((p : Int) < (i : Int)) = True := eq_true (by omega)
     have hf := fun k => blk_frozen N1.out k
     have k1 : w1.cell? ⟨gi, 1, none⟩ = some (.pointer none) := (blk_cell N1.out 1).trans rfl
     clear hSi hp
     go_wp2_with fail
     have G2 := am (G1.out.set N1.out HNE.out 1 (.pointer (some ⟨g' p, 0, none⟩)))
     have N2 := am (show NB (w1.setCell ⟨gi, 1, none⟩ (.pointer (some ⟨g' p, 0, none⟩))) gi rdi (some ⟨g' p, 0, none⟩) (.slice none 0 0) from blk_put N1.out 1 _ rfl)
     have HN2 := am (Kd.R_set HN1.out N1.out kpne 1 (.pointer (some ⟨g' p, 0, none⟩)))
     have B2 := am (below_set (j := 1) (v := .pointer (some ⟨g' p, 0, none⟩)) B1.out HGE.out)
     clear G1 N1 HN1 B1 hf k1 hx1 hx2
     generalize w1.setCell ⟨gi, 1, none⟩ (.pointer (some ⟨g' p, 0, none⟩)) = w2 at G2 N2 HN2 B2 ⊢
     have k1 : w2.cell? ⟨gi, 1, none⟩ = some (.pointer (some ⟨g' p, 0, none⟩)) := (blk_cell N2.out 1).trans rfl
     have k2 : w2.cell? ⟨g' p, 2, none⟩ = some (V' p) := (blk_cell (G2.out.1 p hpi).1 2).trans rfl
     refine start_ (n := 17) (S := fun w' => w'.cell? ⟨gi, 1, none⟩ = some (.pointer (some ⟨g' p, 0, none⟩)) ∧ w'.cell? ⟨g' p, 2, none⟩ = some (V' p)) (ds := [16]) #[F,F,F,F,F,F,F,F,F,F,F,F,F,F,F,F,F] (by kernel_rfl) rfl rfl ⟨k1, k2⟩ (fun hHeld => ?_)
     clear k1 k2
     have G3 := am (G2.out.below (below_drew1 (Below.refl _ _)))
     have N3 := am (blk_drew N2.out)
     have HN3 := am (Kd.R_drew HN2.out)
     have B3 := am (below_drew1 B2.out)
     clear G2 N2 HN2 B2
     generalize w2.drew = w3 at G3 N3 HN3 B3 hHeld ⊢
     refine pz 0 (some 32) #[T,F,F,F,F,F,F,F,F,F,F,F,F,F,F,F,F] (by kernel_rfl) (h := ?_)
     refine pz 1 (some 33) #[T,T,F,F,F,F,F,F,F,F,F,F,F,F,F,F,F] (by kernel_rfl) (h := ?_)
     refine pz 2 (some 34) #[T,T,T,F,F,F,F,F,F,F,F,F,F,F,F,F,F] (by kernel_rfl) (h := ?_)
     refine tz hHeld 3 (some 35) #[T,T,T,T,F,F,F,F,F,F,F,F,F,F,F,F,F] (by kernel_rfl) (h := ?_)
     refine pz 4 (some 36) #[T,T,T,T,T,F,F,F,F,F,F,F,F,F,F,F,F] (by kernel_rfl) (h := ?_)
     refine pz 5 (some 37) #[T,T,T,T,T,T,F,F,F,F,F,F,F,F,F,F,F] (by kernel_rfl) (h := ?_)
     refine pz 6 (some 38) #[T,T,T,T,T,T,T,F,F,F,F,F,F,F,F,F,F] (by kernel_rfl) (h := ?_)
     refine tz hHeld 7 (some 39) #[T,T,T,T,T,T,T,T,F,F,F,F,F,F,F,F,F] (by kernel_rfl) (h := ?_)
     refine pz 8 (some 40) #[T,T,T,T,T,T,T,T,T,F,F,F,F,F,F,F,F] (by kernel_rfl) (h := ?_)
     refine pz 9 (some 41) #[T,T,T,T,T,T,T,T,T,T,F,F,F,F,F,F,F] (by kernel_rfl) (h := ?_)
     refine tz hHeld 10 (some 42) #[T,T,T,T,T,T,T,T,T,T,T,F,F,F,F,F,F] (by kernel_rfl) (h := ?_)
     refine pz 11 (some 43) #[T,T,T,T,T,T,T,T,T,T,T,T,F,F,F,F,F] (by kernel_rfl) (h := ?_)
     refine one_ (i := 12) (N := some 44) #[T,T,T,T,T,T,T,T,T,T,T,T,T,F,F,F,F] rfl rfl (by kernel_rfl) (by decide) (fun K hK => ?_)
     refine value_ (w1 := ?_) (v := ?_) (by rfl) rfl ?_ ?_
     rotate_left 2
     ·go_simp
      constructor
      ·rfl
      ·rfl
     refine hK.out _ _ ⟨pw_cell_below (below_alloc (Below.refl _ _) _) hHeld.1, pw_cell_below (below_alloc (Below.refl _ _) _) hHeld.2⟩ (fun hHeld => ?_)
     clear hK K
     refine norm_ (a' := ?_) ?_ ?_
     rotate_left
     ·show Act.put _ (some 44) _ = _
      simp only [Act.put, sA, sZ, sS, i64_w, i32_w]
      rfl
     have hG3 := G3.out.1 p hpi
     refine one_ (i := 13) (N := some 45) #[T,T,T,T,T,T,T,T,T,T,T,T,T,T,F,F,F] rfl rfl (by kernel_rfl) (by decide) (fun K hK => ?_)
     refine Kd.R_append_step kp (w0 := w) w.heap.size (by rfl) (.tmp 42) (.tmp 44) 37 39 (.pointer none) 8 rfl Tryd.underlying37 infoN rfl (by decide) (by omega) (V' p) ((chS l1 i p).map g') gi [.pointer (some ⟨gi, 0, none⟩)] (fun _ => True) (fun _ => False) rfl rfl ?aP (fun _ hk => hk.elim) ?aF ?aO ?aB ?aS ?aL ?_
     (case aP => exact rfl)
     (case aB => exact B3.out)
     (case aF => exact (fun _ _ => trivial))
     (case aO => exact hG3.2.2)
     (case aS => exact (below_size B3.out))
     (case aL => have := chS_len l1 i p; have := HI.out; have := HH.out; rw [List.length_map]; omega)
     intro v1 w11 ho hb hg hat
     have HO4 := am ho
     have B4 := am hb
     have HGB := am hg
     have HAT := am hat
     have N4 := am (blk_grown N3.out hg (Kd.R_ne hG3.2.2 N3.out (by decide)))
     have P4 := am (blk_grown hG3.1 hg (Kd.R_ne hG3.2.2 hG3.1 (by decide)))
     have HN4 := am (Kd.R_grown2 HN3.out rfl hg (fun k hk e => HDD.out p hpi k e.symm hk))
     clear ho hb hg hat
     refine hK.out _ _ ⟨(blk_cell N4.out 1).trans rfl, (blk_cell P4.out 2).trans rfl⟩ (fun hHeld => ?_)
     clear hK K
     refine norm_ (a' := ?_) ?_ ?_
     rotate_left
     ·show Act.put _ (some 45) _ = _
      simp only [Act.put, sA, sZ, sS, i64_w, i32_w]
      rfl
     refine pz 14 (some 46) #[T,T,T,T,T,T,T,T,T,T,T,T,T,T,T,F,F] (by kernel_rfl) (h := ?_)
     refine pz 15 (some 47) #[T,T,T,T,T,T,T,T,T,T,T,T,T,T,T,T,F] (by kernel_rfl) (h := ?_)
     clear hHeld hG3
     obtain ⟨Aw, cw, ew⟩ := Kd.R_slice HO4.out
     generalize ((chS l1 i p).map g' ++ [gi]).length = Lw at ew
     subst ew
     have qf := fun k => blk_frozen P4.out k
     have q6 : w11.cell? ⟨g' p, 2, none⟩ = some (V' p) := (blk_cell P4.out 2).trans rfl
     refine last_ (i := 16) (N := none) #[T,T,T,T,T,T,T,T,T,T,T,T,T,T,T,T,T] rfl rfl (by kernel_rfl) (by decide) (fun K hK => ?_)
     refine skip_ (w1 := ?_) (by rfl) rfl ?_ ?_
     rotate_left
     ·go_simp
      rfl
     refine hK.out _ _ ?_
     clear hK K
     refine done_ (by kernel_rfl) ?_
     clear qf q6
     go_wp2_with fail
     go_meet
     case rel =>
      refine ⟨upf V' p (.slice Aw Lw cw), ⟨?_⟩, ⟨?_⟩, ⟨Kd.R_set HN4.out P4.out kpne 2 _⟩, ⟨fun j hj k hk => ?_⟩, ⟨below_set B4.out (G3.out.1 p hpi).2.1⟩, ⟨by rw [upf_ne _ _ _ _ (by omega)]; exact EVI.out⟩⟩
      ·rw [chS_step l1 i p (by omega) HP.out]
       exact G3.out.app hpi (by rw [EGI.out]; exact HO4.out) HGB.out HAT.out
      ·rw [show paS l1 i = some p by unfold paS; rw [if_neg h0, HP.out]; rfl]
       exact blk_far N4.out (Ne.symm (HNE.out p hpi)) _
      ·by_cases e : j = p
       ·subst e
        rw [upf_same]
        rcases HAT.out with hat | ⟨b, hb, hle⟩
        ·rw [hat]
         exact HDD.out j hpi k hk
        ·rw [hb]
         have := Kd.R_lt HN3.out k hk
         intro e
         cases e
         omega
       ·rw [upf_ne _ _ _ _ e]
        exact HDD.out j hj k hk
   case rest =>
    obtain ⟨V2, G5, N5, HN5, HD5, B5, EV5⟩ := hcut
    clear G1 N1 HN1 B1
    go_wp2_with (first | ((with_reducible refine gate_builtin (b := .append) (xs := #[.tmp 48, .tmp 50]) rfl ?_); at_builtin; refine Kd.R_append kp (w0 := w) w.heap.size rfl (.tmp 48) (.tmp 50) 37 39 (.pointer none) 8 rfl Tryd.underlying37 infoN rfl (by decide) (by omega) (.slice AN i cN) ((List.range i).map g') gi [.pointer (some ⟨gi, 0, none⟩)] (fun _ => True) (fun _ => False) rfl rfl ?aP (fun _ hk => hk.elim) ?aF ?aO ?aB ?aS ?aL ?_; (case aP => exact rfl); (case aB => exact B5.out); (case aF => exact (fun _ _ => trivial)); (case aO => exact HN5.out); (case aS => exact (below_size B5.out)); (case aL => have := HI.out; have := HH.out; rw [List.length_map, List.length_range]; omega); intro v1 w9 ho hb hg hat; have HO6 := am ho; have B6 := am hb; have HG6 := am hg; have HAT6 := am hat; clear ho hb hg hat))
    have hw : wrap64 ((i : Int) + 1) = ((i + 1 : Nat) : Int) := by unfold wrap64; have := HH.out; omega
    go_roundg (l0.length - (i + 1))
    case measure => have := HI.out; omega
    case rel =>
     have G6 := G5.out.row HN5.out HD5.out HG6.out
     have N6 := blk_grown N5.out HG6.out (Kd.R_ne HN5.out N5.out (by decide))
     refine ⟨i + 1, g', V2, by first | rfl | simp [hw], ⟨by omega, rfl⟩, ⟨?_⟩, ⟨?_⟩, ⟨?_⟩, B6⟩
     ·refine G6.more ?_ (by rw [EGI.out]; exact HGE.out) (fun j hj => by rw [EGI.out]; exact HNE.out j hj) EV5.out ?_
      ·rw [EGI.out]
       show NB _ gi (rdOf ByteArray.empty l0 (i : Int)) _ _
       rw [← HRD.out]
       exact N6
      ·refine List.eq_nil_iff_forall_not_mem.2 (fun k hk => ?_)
       have h := chS_mem _ _ _ _ hk
       have h2 := HS.out k h.2.1 (by omega)
       omega
     ·rw [List.range_succ, List.map_append, List.map_cons, List.map_nil, EGI.out]
      exact HO6.out
     ·intro j hj k hk
      by_cases e : j = i
      ·subst e
       rw [EV5.out]
       simp [Value.ownBlock]
      ·exact G5.out.fresh HD5.out HAT6.out j (by omega) k hk
  ·have ei : i = l0.length := by have := HI.out; omega
   subst ei
   have b1 : decide ((l0.length : Int) < (l0.length : Int)) = false := decide_eq_false (by omega)
   go_wp2_with fail
   obtain ⟨AN, cN, eN⟩ := Kd.R_slice HN.out
   rw [List.length_map, List.length_range] at eN
   subst eN
   go_ret
   refine ⟨⟨g, fun (j : Nat) => rdOf ByteArray.empty l0 (j : Int), paS l1, fun j => slA (V j), fun j => slC (V j), chS l1 l0.length⟩, AN, cN, rfl, HG.out.tree, ⟨fun i j hi hj e => Decidable.byContradiction fun hne => (HG.out.2 i j hi hj hne).1 e, fun i hi => (HG.out.1 i hi).2.1, fun i hi k hk => ?_, fun i hi j hj => ?_⟩, ?_, HB.out, rfl, rfl, rfl⟩
   ·have h := chS_mem _ _ _ _ hk
    have h2 := HS.out k h.2.1 h.1
    exact ⟨h.1, by omega⟩
   ·have hj' : (if i = 0 then none else some (rd l1 (i : Int)).toNat) = some j := hj
    by_cases e : i = 0
    ·rw [if_pos e] at hj'
     cases hj'
    ·rw [if_neg e] at hj'
     cases hj'
     have h2 := HS.out i (by omega) hi
     omega
   ·refine Kd.F_mono (Kd.R_F (Kd.R_bound HN.out)) (fun k hk => ⟨hk.2.2.1, fun j' hj' => ?_⟩)
    obtain ⟨_, _, _, q, hq, cells, hcells⟩ := hk
    intro e2
    subst e2
    exact blk_ne hcells (HG.out.1 j' hj').1 (kpne q hq) rfl

/-! ### StemFill: what it fills -/
def isL (rd : ByteArray) : Bool := impl_isLost.f rd == some true
theorem isLost_some (rd : ByteArray) (hs : rd.size ≤ 1000) : impl_isLost.f rd = some (isL rd) := by
 have h : ∃ b, impl_isLost.f rd = some b := by
  unfold impl_isLost.f
  split
  ·exact ⟨_, rfl⟩
  ·unfold strings_Trim.f
   rw [if_pos rfl, if_pos hs]
   exact ⟨_, rfl⟩
 obtain ⟨b, hb⟩ := h
 unfold isL
 rw [hb]
 cases b <;> rfl
def cF (lo : Nat → Bool) (rds : Nat → ByteArray) (ch : Nat → List Nat) (p : Int) : Nat → Nat → Int × Int × Int × Int
 | 0, _ => (0, 0, 0, 0)
 | f + 1, i => cnt4 (lo i) (rds i) p (cF lo rds ch p f) (ch i)
theorem addB_congr {cs cs' : Nat → Int × Int × Int × Int} (l : Nat) : ∀ (r : List Nat) (a : Int), (∀ k ∈ r, cs k = cs' k) → addB cs l r a = addB cs' l r a
 | [], _, _ => rfl
 | k :: r, a, h => by
  rw [addB, addB, h k (List.mem_cons_self ..), addB_congr l r _ (fun k hk => h k (List.mem_cons_of_mem _ hk))]
theorem cnt4_congr {cs cs' : Nat → Int × Int × Int × Int} (b : Bool) (rd : ByteArray) (p : Int) (r : List Nat) (h : ∀ k ∈ r, cs k = cs' k) : cnt4 b rd p cs r = cnt4 b rd p cs' r := by
 unfold cnt4 cnt
 rw [addB_congr 0 r _ h, addB_congr 1 r _ h, addB_congr 2 r _ h, addB_congr 3 r _ h]
theorem cF_eq (n : Nat) (lo : Nat → Bool) (rds : Nat → ByteArray) (ch : Nat → List Nat) (p : Int) (R : Nat → Int × Int × Int × Int) (hc : ∀ i, i < n → ∀ k ∈ ch i, k < n ∧ i < k) (hR : ∀ j, j < n → R j = cnt4 (lo j) (rds j) p R (ch j)) : ∀ f j, j < n → n - j ≤ f → R j = cF lo rds ch p f j
 | 0, j, hj, hf => absurd hf (by omega)
 | f + 1, j, hj, hf => by
  rw [hR j hj, cF]
  refine cnt4_congr _ _ _ _ (fun k hk => ?_)
  have h := hc j hj k hk
  exact cF_eq n lo rds ch p R hc hR f k h.1 (by omega)
def fromP (pa : Nat → Option Nat) (y : Nat → Int) (i : Nat) : Int := match pa i with
 | none => -1
 | some j => y j
def lF (R : Nat → Int × Int × Int × Int) (pa : Nat → Option Nat) : Nat → Nat → Int
 | 0, _ => 0
 | f + 1, i => (best4 (R i) (fromP pa (lF R pa f) i)).1
theorem lF_fuel (R : Nat → Int × Int × Int × Int) (pa : Nat → Option Nat) (n : Nat) (hp : ∀ i, i < n → ∀ j, pa i = some j → j < i) : ∀ f f' j, j < n → j < f → j < f' → lF R pa f j = lF R pa f' j
 | 0, _, j, _, hf, _ => absurd hf (by omega)
 | _ + 1, 0, j, _, _, hf => absurd hf (by omega)
 | f + 1, f' + 1, j, hj, hf, hf' => by
  rw [lF, lF]
  have e : fromP pa (lF R pa f) j = fromP pa (lF R pa f') j := by
   unfold fromP
   cases hpj : pa j with
   | none => rfl
   | some q =>
    have hq := hp j hj q hpj
    exact lF_fuel R pa n hp f f' q (by omega) (by omega) (by omega)
  rw [e]
theorem lF_step (R : Nat → Int × Int × Int × Int) (pa : Nat → Option Nat) (n : Nat) (hp : ∀ i, i < n → ∀ j, pa i = some j → j < i) (j : Nat) (hj : j < n) : lF R pa n j = (best4 (R j) (fromP pa (lF R pa n) j)).1 := by
 rw [lF_fuel R pa n hp n (j + 1) j hj hj (by omega), lF]
 have e : fromP pa (lF R pa j) j = fromP pa (lF R pa n) j := by
  unfold fromP
  cases hpj : pa j with
  | none => rfl
  | some q =>
   have hq := hp j hj q hpj
   exact lF_fuel R pa n hp j n q (by omega) (by omega) (by omega)
 rw [e]
def rdsS (l0 : List ByteArray) (j : Nat) : ByteArray := rdOf ByteArray.empty l0 (j : Int)
def cS (l0 : List ByteArray) (l1 : List Int) (p : Int) : Nat → Int × Int × Int × Int := cF (fun j => isL (rdsS l0 j)) (rdsS l0) (chS l1 l0.length) p l0.length
def lS (l0 : List ByteArray) (l1 : List Int) (p : Int) : Nat → Int := lF (cS l0 l1 p) (paS l1) l0.length
def ltr (x : Int) : ByteArray := strOfNums [IntKind.u8.wrap (97 + IntKind.u8.wrap x)]
def fillTo (y : Nat → Int) : Nat → ByteArray
 | 0 => ⟨#[]⟩
 | p + 1 => fillTo y p ++ ltr (y p)
theorem ltr_size (x : Int) : (ltr x).size = 1 := rfl
theorem fillTo_size (y : Nat → Int) : ∀ p, (fillTo y p).size = p
 | 0 => rfl
 | p + 1 => by rw [fillTo, ByteArray.size_append, fillTo_size y p, ltr_size]
/-- The row of texts, i of them a letter ahead. -/
def fl (l0 : List ByteArray) (l1 : List Int) (i p : Nat) : List ByteArray := (List.range l0.length).map fun j => fillTo (fun q => lS l0 l1 (q : Int) j) (if j < i then p + 1 else p)
theorem fl_len (l0 : List ByteArray) (l1 : List Int) (i p : Nat) : (fl l0 l1 i p).length = l0.length := by simp [fl]
theorem fl_get (l0 : List ByteArray) (l1 : List Int) (i p j : Nat) (h : j < l0.length) : rdOf ByteArray.empty (fl l0 l1 i p) (j : Int) = fillTo (fun q => lS l0 l1 (q : Int) j) (if j < i then p + 1 else p) := by
 unfold rdOf fl
 rw [Int.toNat_natCast]
 simp [List.getD_eq_getElem?_getD, h]
theorem fl_set (l0 : List ByteArray) (l1 : List Int) (i p : Nat) (x : ByteArray) (hx : x = fillTo (fun q => lS l0 l1 (q : Int) i) (p + 1)) : (fl l0 l1 i p).set i x = fl l0 l1 (i + 1) p := by
 refine List.ext_getElem? (fun j => ?_)
 rw [List.getElem?_set]
 by_cases e : i = j
 ·subst e
  rw [if_pos rfl, fl_len]
  by_cases h : i < l0.length
  ·rw [if_pos h, hx]
   simp [fl, h]
  ·rw [if_neg h, List.getElem?_eq_none (by rw [fl_len]; omega)]
 ·rw [if_neg e]
  unfold fl
  rw [List.getElem?_map, List.getElem?_map]
  by_cases h : j < l0.length
  ·rw [List.getElem?_range h]
   simp only [Option.map_some]
   by_cases h2 : j < i
   ·rw [if_pos h2, if_pos (by omega)]
   ·rw [if_neg h2, if_neg (by omega)]
  ·rw [List.getElem?_eq_none (by rw [List.length_range]; omega)]
   rfl
theorem fl_next (l0 : List ByteArray) (l1 : List Int) (p : Nat) : fl l0 l1 l0.length p = fl l0 l1 0 (p + 1) := by
 refine List.map_congr_left (fun j hj => ?_)
 rw [if_pos (List.mem_range.1 hj), if_neg (by omega)]
theorem fl_zero (l0 : List ByteArray) (l1 : List Int) : fl l0 l1 0 0 = List.replicate l0.length (⟨#[]⟩ : ByteArray) := by
 refine List.ext_getElem (by rw [fl_len, List.length_replicate]) (fun j h1 h2 => ?_)
 simp [fl, fillTo]
def FillOk (l0 : List ByteArray) (l1 : List Int) : Prop := 1 ≤ l0.length ∧ l0.length ≤ 6 ∧ l1.length = l0.length ∧ StemOk l0.length l1 ∧ (∀ j, j < l0.length → (rdsS l0 j).size = (rdsS l0 0).size) ∧ (rdsS l0 0).size ≤ 8
def fillS (l0 : List ByteArray) (l1 : List Int) : List ByteArray := fl l0 l1 0 (rdsS l0 0).size
/-! bounds -/
theorem bestL_bd (fr B : Int) : ∀ (r : List Int) (l a b : Int), (∀ c ∈ r, 0 ≤ c ∧ c ≤ B) → 0 ≤ b → b ≤ B + 1 → 0 ≤ (bestL fr r l a b).2 ∧ (bestL fr r l a b).2 ≤ B + 1
 | [], _, _, _, _, h1, h2 => ⟨h1, h2⟩
 | c :: r, l, a, b, h, h1, h2 => by
  have hc := h c (List.mem_cons_self ..)
  have hr := fun x hx => h x (List.mem_cons_of_mem c hx)
  rw [bestL]
  obtain ⟨X, hX⟩ : ∃ X, X = if 0 ≤ fr ∧ l ≠ fr then c + 1 else c := ⟨_, rfl⟩
  have hXb : 0 ≤ X ∧ X ≤ B + 1 := by rw [hX]; split <;> omega
  rw [← hX]
  split
  ·exact bestL_bd fr B r _ _ _ hr hXb.1 hXb.2
  ·exact bestL_bd fr B r _ _ _ hr h1 h2
def Bd (B : Int) (c : Int × Int × Int × Int) : Prop := ∀ l, l < 4 → 0 ≤ getc c l ∧ getc c l ≤ B
theorem best4_bd (c : Int × Int × Int × Int) (fr B : Int) (h : Bd B c) (hB : 0 ≤ B) : 0 ≤ (best4 c fr).2 ∧ (best4 c fr).2 ≤ B + 1 := by
 refine bestL_bd fr B _ _ _ _ (fun x hx => ?_) (Int.le_refl _) (by omega)
 have h0 := h 0 (by decide)
 have h1 := h 1 (by decide)
 have h2 := h 2 (by decide)
 have h3 := h 3 (by decide)
 simp only [getc] at h0 h1 h2 h3
 simp only [List.mem_cons, List.not_mem_nil, or_false] at hx
 rcases hx with rfl | rfl | rfl | rfl
 ·exact h0
 ·exact h1
 ·exact h2
 ·exact h3
theorem addB_bd (cs : Nat → Int × Int × Int × Int) (l : Nat) (B : Int) (hB : 0 ≤ B) (hB2 : B ≤ 100000000) : ∀ (r : List Nat) (a : Int), (∀ k ∈ r, Bd B (cs k)) → 0 ≤ a → a ≤ 1000 + (6 - r.length) * (B + 1) → r.length ≤ 6 → 0 ≤ addB cs l r a ∧ addB cs l r a ≤ 1000 + 6 * (B + 1)
 | [], a, _, h1, h2, _ => by rw [addB]; exact ⟨h1, by simpa using h2⟩
 | k :: r, a, h, h1, h2, h3 => by
  rw [addB]
  have hk := best4_bd (cs k) (l : Int) B (h k (List.mem_cons_self ..)) hB
  rw [List.length_cons] at h2 h3
  have e : (6 - ((r.length + 1 : Nat) : Int)) * (B + 1) + (B + 1) = (6 - (r.length : Int)) * (B + 1) := by
   rw [show (6 - (r.length : Int)) = (6 - ((r.length + 1 : Nat) : Int)) + 1 by omega, Int.add_mul, Int.one_mul]
  have hm : (6 - ((r.length + 1 : Nat) : Int)) * (B + 1) ≤ 6 * (B + 1) := Int.mul_le_mul_of_nonneg_right (by omega) (by omega)
  have hw : wrap64 (a + (best4 (cs k) (l : Int)).2) = a + (best4 (cs k) (l : Int)).2 := by unfold wrap64; omega
  rw [hw]
  exact addB_bd cs l B hB hB2 r _ (fun q hq => h q (List.mem_cons_of_mem _ hq)) (by omega) (by omega) (by omega)
def bd : Nat → Int
 | 0 => 0
 | d + 1 => 1000 + 6 * (bd d + 1)
theorem bd_mono : ∀ d, 0 ≤ bd d ∧ bd d ≤ bd (d + 1)
 | 0 => by simp [bd]
 | d + 1 => by
  have := bd_mono d
  rw [bd, bd]
  omega
theorem bd_le : ∀ d e, d ≤ e → bd d ≤ bd e
 | d, 0, h => by rw [show d = 0 by omega]; exact Int.le_refl _
 | d, e + 1, h => by
  by_cases h2 : d = e + 1
  ·rw [h2]; exact Int.le_refl _
  ·exact Int.le_trans (bd_le d e (by omega)) (bd_mono e).2
theorem cnt4_bd (b : Bool) (rd : ByteArray) (p : Int) (cs : Nat → Int × Int × Int × Int) (r : List Nat) (B : Int) (hB : 0 ≤ B) (hB2 : B ≤ 100000000) (h : ∀ k ∈ r, Bd B (cs k)) (hr : r.length ≤ 6) : Bd (1000 + 6 * (B + 1)) (cnt4 b rd p cs r) := by
 intro l hl
 rw [getc_cnt4 _ _ _ _ _ _ hl]
 have hp : 0 ≤ pen b rd p l ∧ pen b rd p l ≤ 1000 := by unfold pen; split <;> omega
 have hm : 0 ≤ (6 - (r.length : Int)) * (B + 1) := Int.mul_nonneg (by omega) (by omega)
 exact addB_bd cs l B hB hB2 r _ h hp.1 (by omega) hr
theorem Bd.le {B C : Int} {c : Int × Int × Int × Int} (h : Bd B c) (hBC : B ≤ C) : Bd C c := fun l hl => ⟨(h l hl).1, Int.le_trans (h l hl).2 hBC⟩
theorem fix_bd (n i : Nat) (hn : n ≤ 6) (lo : Nat → Bool) (rds : Nat → ByteArray) (ch : Nat → List Nat) (p : Int) (R : Nat → Int × Int × Int × Int) (hc : ∀ i, i < n → ∀ k ∈ ch i, k < n ∧ i < k) (hl : ∀ i, (ch i).length ≤ n) (hR : ∀ j, i ≤ j → j < n → R j = cnt4 (lo j) (rds j) p R (ch j)) : ∀ d j, d ≤ 6 → i ≤ j → j < n → n - j ≤ d → Bd (bd d) (R j)
 | 0, j, _, _, hj, hf => absurd hf (by omega)
 | d + 1, j, hd, hi, hj, hf => by
  rw [hR j hi hj, bd]
  refine cnt4_bd _ _ _ _ _ (bd d) (bd_mono d).1 (Int.le_trans (bd_le d 5 (by omega)) (by decide)) (fun k hk => ?_) (Nat.le_trans (hl j) hn)
  have h := hc j hj k hk
  exact fix_bd n i hn lo rds ch p R hc hl hR d k (by omega) (by omega) h.1 (by omega)
theorem Bd.sm {d : Nat} {c : Int × Int × Int × Int} (h : Bd (bd d) c) (hd : d ≤ 6) : Sm c := by
 have e := Int.le_trans (bd_le d 6 hd) (show bd 6 ≤ 1000000000 by decide)
 intro x hx
 have h0 := h 0 (by decide)
 have h1 := h 1 (by decide)
 have h2 := h 2 (by decide)
 have h3 := h 3 (by decide)
 simp only [getc] at h0 h1 h2 h3
 simp only [List.mem_cons, List.not_mem_nil, or_false] at hx
 rcases hx with rfl | rfl | rfl | rfl <;> omega
theorem ltr_conv (W : World) (x : Int) : (convert 22 9 (.slice (some ⟨W.heap.size, 0, none⟩) 1 1)).run Tryd.prog (W.alloc (.cells #[.int .u8 x] 5)) = .ok (.string (strOfNums [x])) (W.alloc (.cells #[.int .u8 x] 5)) := by
 refine Kd.C_string (xs := [x]) Tryd.underlying22 Tryd.underlying5 Tryd.underlying9 ⟨rfl, by simp, fun _ => ⟨_, rfl, fun j q hj => ?_⟩⟩
 match j, hj with
 | 0, hj =>
  cases hj
  refine ⟨[.int .u8 x], rfl, rfl, fun i u hi => ?_⟩
  match i, hi with
  | 0, hi =>
   cases hi
   exact (blk_cell (blk_new W (.cells #[.int .u8 x] 5)) 0).trans rfl
theorem R_kb {W W1 : World} {base : Nat} {ok : Nat → Prop} {v : Value} {xs : List ByteArray} {g : Nat} {cs : Array Value} (h : Kd.string.R 9 W base ok v xs) (hk : KeepBut W W1 g none) (hb : W.heap[g]? = some (.cells cs 43 (0, 0))) : Kd.string.R 9 W1 base ok v xs := by
 refine Kd.R_mono (Kd.R_move (Kd.R_bound h) (fun k hk2 => ?_)) (fun _ hk2 => hk2.1)
 obtain ⟨_, _, hlt, q, hq, cells, hc⟩ := hk2
 refine hk.2 k hlt (fun e => ?_) (by simp)
 subst e
 rw [hb] at hc
 simp only [Option.some.injEq, Obj.cells.injEq] at hc
 rcases List.mem_cons.1 hq with e | e
 ·exact absurd (hc.2.1.trans e) (by decide)
 ·exact absurd e (List.not_mem_nil)
theorem IsTree.grown {W W1 : World} {N n : Nat} {D : Td} {cs : Nat → Int × Int × Int × Int} {lt : Nat → Int} (h : IsTree W N n D cs lt) (hg : W.grownBy W1 none) : IsTree W1 N n D cs lt := fun j hj => by
 obtain ⟨h1, h3⟩ := h j hj
 exact ⟨blk_grown h1 hg (by simp), Kd.F_grown h3 hg (fun _ _ => by simp)⟩
set_option maxHeartbeats 8000000 in
set_option maxRecDepth 100000 in
theorem fill_any (n : Nat) (A0 : Option Addr) (c0 : Nat) (l0 : List ByteArray) (A1 : Option Addr) (c1 : Nat) (l1 : List Int) (w : World) (hr0 : Kd.C Kd.string w A0 l0.length l0) (hc0 : l0.length ≤ c0) (hr1 : Kd.C (Kd.int .i64) w A1 l1.length l1) (hc1 : l1.length ≤ c1) (hv : impl_StemValid.f n l0 l1 = some true) (hok : FillOk l0 l1) :
  Calls Tryd.prog 5 #[.slice A0 l0.length c0, .slice A1 l1.length c1] w fun e w' => ∃ v0_ : Value, e = .returned (.tuple #[v0_, .bool true]) ∧ Kd.R Kd.string 9 w' w.heap.size (fun _ => True) v0_ (fillS l0 l1) ∧ Below w.heap.size w w' := by
 have hu1 := Tryd.underlying43
 have HR0 := am hr0
 have HC0 := am hc0
 have HR1 := am hr1
 have HC1 := am hc1
 have HV := am hv
 have HOK := am hok
 have HN1 := am hok.1
 have HN6 := am hok.2.1
 have H100 := am (Nat.le_trans hok.2.1 (show 6 ≤ 100 by decide))
 have HB := am (Below.refl w.heap.size w)
 clear hr0 hc0 hr1 hc1 hv hok
 go_enter Tryd.func5, Tryd.ntmps5
 go_upto_region 4 with (first | ((with_reducible refine gate_callee (f := 13) rfl ?_); refine goesL_ (some 14) rfl rfl Tryd.func13 (by kernel_rfl) rfl #[.slice A0 l0.length c0, .slice A1 l1.length c1] rfl (by (try simp only [List.map_toArray, List.map_cons, List.map_nil]); first | done | rfl) ?_; (with_reducible refine (impl_StemValid.calls n A0 c0 l0 A1 c1 l1 true _ HR0.out HC0.out HR1.out HC1.out HV.out).mono ?_); rintro e w2 ⟨rfl, hb⟩; refine ⟨_, rfl, ?_⟩; have B2 := am hb; clear HB hb))
 refine (stemTree_any A0 c0 l0 A1 c1 l1 _ (Kd.C_below HR0.out B2.out) HC0.out (Kd.C_below HR1.out B2.out) HC1.out HOK.out.2.2.1 H100.out HOK.out.2.2.2.1).mono ?_
 rintro e w3 ⟨D, AN, cN, rfl, h1, h2, h3, h4, h5, h6, h7⟩
 have T3 := am h1
 have S3 := am h2
 have F3 := am h3
 have B3 := am (below_step B2.out h4)
 have E5 := am h5
 have E6 := am h6
 have E7 := am h7
 have HS2 := am B2.out.size
 have S3s := am h4.size
 clear B2 h1 h2 h3 h4 h5 h6 h7
 dsimp only
 go_upto_region 4 with fail
 obtain ⟨ad0, e0, hx0⟩ := Kd.at_string HR0.out 0 (by omega) (by have := HN1.out; omega)
 cases e0
 replace hx0 := (B3.out.cell (World.block_lt_of_cell? w _ hx0)).trans hx0
 rw [show (0 : Int).toNat = 0 from rfl, Addr.add_zero'] at hx0
 obtain ⟨rd0, hrd0⟩ : ∃ r, r = rdOf ByteArray.empty l0 0 := ⟨_, rfl⟩
 rw [← hrd0] at hx0
 have HRD := am (show rd0 = rdsS l0 0 from hrd0)
 have hz : (⟨#[]⟩ : ByteArray) = ⟨#[]⟩ := rfl
 clear hrd0 hz
 go_upto_region 5 with (first | ((with_reducible refine gate_dst (N := 21) rfl ?_); refine Kd.R_make Kd.string w.heap.size 9 rfl (N := 21) rfl 23 _ _ rfl (l0.length : Int) rfl rfl Tryd.underlying23 (.string ⟨#[]⟩) 16 info9 rfl (by decide) (by omega) (⟨#[]⟩ : ByteArray) (ok := fun _ => True) (okp := fun _ => True) rfl (fun _ hk => hk) trivial (by omega) ?ml B3.out B3.out.size ?_; (case ml => have := HN6.out; omega); intro v7 w4 ho hb hg hnew; rw [Int.toNat_natCast] at ho; have HO4 := am ho; have B4 := am hb; have G4 := am hg; have NW4 := am hnew; clear ho hb hg hnew))
 obtain ⟨ad1, e1, hx1⟩ := Kd.at_string HR0.out 0 (by omega) (by have := HN1.out; omega)
 cases e1
 replace hx1 := (B4.out.cell (World.block_lt_of_cell? w _ hx1)).trans hx1
 rw [show (0 : Int).toNat = 0 from rfl, Addr.add_zero', show rdOf ByteArray.empty l0 0 = rd0 from HRD.out.symm] at hx1
 have T4 := am (T3.out.grown G4.out)
 have F4 := am (Kd.F_grown F3.out G4.out (fun _ _ => by simp))
 obtain ⟨go, co, eo, hgb, _, _⟩ := Kd.R_form HO4.out (by rw [List.length_replicate]; have := HN1.out; omega)
 rw [List.length_replicate] at eo
 subst eo
 have HGB := am hgb
 have HGN := am (show w3.heap.size ≤ go by obtain ⟨b, hb1, hb2⟩ := NW4.out; simp only [Value.ownBlock, Option.some.injEq] at hb1; omega)
 have O4 := am (show Kd.R Kd.string 9 w4 w.heap.size (fun _ => True) (.slice (some ⟨go, 0, none⟩) l0.length co) (fl l0 l1 0 0) by rw [fl_zero]; exact HO4.out)
 have q0 : (0 < l0.length) = True := eq_true (by have := HN1.out; omega)
 have q0' : ((0 : Int) < (l0.length : Int)) = True := eq_true (by have := HN1.out; omega)
 have HS4 := am (Nat.le_trans HS2.out (show w2.heap.size ≤ w4.heap.size from Nat.le_trans S3s.out G4.out.size))
 have HW24 := am (Nat.le_trans S3s.out G4.out.size)
 clear hx0 HO4 T3 F3 B3 G4 hgb
 go_wp2_with fail
 go_loopg [26] (rdsS l0 0).size (fun kq v26 w' => ∃ (p : Nat) (cs : Nat → Int × Int × Int × Int) (lt : Nat → Int), v26 = .int .i64 (p : Int) ∧ Aside0 (p ≤ (rdsS l0 0).size ∧ kq = (rdsS l0 0).size - p) ∧ Aside0 (IsTree w' w3.heap.size l0.length D cs lt) ∧ Aside0 (Kd.R Kd.string 9 w' w.heap.size (fun _ => True) (.slice (some ⟨go, 0, none⟩) l0.length co) (fl l0 l1 0 p)) ∧ Aside0 (Kd.F kp w' (fun k => k < w3.heap.size ∧ ∀ j, j < l0.length → k ≠ D.g j) AN l0.length ((List.range l0.length).map D.g)) ∧ Aside0 (Below w.heap.size w w') ∧ Aside0 (w2.heap.size ≤ w'.heap.size))
 case atStart => exact ⟨0, _, _, rfl, ⟨by omega, rfl⟩, T4, O4, F4, B4, HW24⟩
 case round =>
  obtain ⟨p, cs, lt, rfl, HP, T5, O5, F5, B5, HW5⟩ := hrel
  by_cases hp : p < (rdsS l0 0).size
  ·have b1 : decide ((p : Int) < (rd0.size : Int)) = true := decide_eq_true (by rw [HRD.out]; omega)
   have b1n : decide (p < rd0.size) = true := decide_eq_true (by rw [HRD.out]; omega)
   have HPL := am hp
   have hw1 : wrap64 ((l0.length : Int) - 1) = (l0.length : Int) - 1 := by unfold wrap64; have := HN6.out; omega
   clear hx1
   go_wp2_with fail
   go_loopg [9] l0.length (fun kq v9 w' => ∃ (i : Nat) (cs2 : Nat → Int × Int × Int × Int), v9 = .int .i64 ((i : Int) - 1) ∧ Aside0 (i ≤ l0.length ∧ kq = i) ∧ Aside0 (IsTree w' w3.heap.size l0.length D cs2 lt) ∧ Aside0 (∀ j, i ≤ j → j < l0.length → cs2 j = cnt4 (isL (D.rds j)) (D.rds j) (p : Int) cs2 (D.ch j)) ∧ Aside0 (Kd.R Kd.string 9 w' w.heap.size (fun _ => True) (.slice (some ⟨go, 0, none⟩) l0.length co) (fl l0 l1 0 p)) ∧ Aside0 (Kd.F kp w' (fun k => k < w3.heap.size ∧ ∀ j, j < l0.length → k ≠ D.g j) AN l0.length ((List.range l0.length).map D.g)) ∧ Aside0 (Below w.heap.size w w') ∧ Aside0 (w2.heap.size ≤ w'.heap.size))
   case atStart => exact ⟨l0.length, cs, by first | rfl | simp [hw1], ⟨Nat.le_refl _, rfl⟩, T5, ⟨fun j h1 h2 => absurd h1 (by omega)⟩, O5, F5, B5, HW5⟩
   case round =>
    obtain ⟨i0, cs2, rfl, HI, T6, HFX, O6, F6, B6, HW2⟩ := hrel
    clear hw1
    by_cases h0 : i0 = 0
    ·subst h0
     have b2 : decide (((0 : Nat) : Int) - 1 ≥ 0) = false := by decide
     go_wp2_with fail
     have HFX0 := am (show ∀ j, j < l0.length → cs2 j = cnt4 (isL (D.rds j)) (D.rds j) (p : Int) cs2 (D.ch j) from fun j hj => HFX.out j (by omega) hj)
     have HRE := am (show ∀ j, j < l0.length → cs2 j = cS l0 l1 (p : Int) j from fun j hj => by
      have h := cF_eq l0.length (fun j => isL (D.rds j)) D.rds D.ch (p : Int) cs2 S3.out.2.2.1 HFX0.out l0.length j hj (by omega)
      rw [h]
      unfold cS
      rw [E5.out, E7.out]
      rfl)
     go_loopg [44] l0.length (fun kq v44 w' => ∃ (i : Nat) (lt2 : Nat → Int), v44 = .int .i64 (i : Int) ∧ Aside0 (i ≤ l0.length ∧ kq = l0.length - i) ∧ Aside0 (IsTree w' w3.heap.size l0.length D cs2 lt2) ∧ Aside0 (∀ j, j < i → lt2 j = lS l0 l1 (p : Int) j) ∧ Aside0 (Kd.R Kd.string 9 w' w.heap.size (fun _ => True) (.slice (some ⟨go, 0, none⟩) l0.length co) (fl l0 l1 i p)) ∧ Aside0 (Kd.F kp w' (fun k => k < w3.heap.size ∧ ∀ j, j < l0.length → k ≠ D.g j) AN l0.length ((List.range l0.length).map D.g)) ∧ Aside0 (Below w.heap.size w w') ∧ Aside0 (w2.heap.size ≤ w'.heap.size))
     case atStart => exact ⟨0, lt, rfl, ⟨by omega, rfl⟩, T6, ⟨fun j hj => absurd hj (by omega)⟩, O6, F6, B6, HW2⟩
     case round =>
      obtain ⟨i, lt2, rfl, HI2, T8, HLT, O8, F8, B8, HW8⟩ := hrel
      by_cases hi : i < l0.length
      ·have HI1 := am hi
       have b4 : decide ((i : Int) < (l0.length : Int)) = true := decide_eq_true (by omega)
       have q2 : (0 ≤ (i : Int)) = True := eq_true (by omega)
       have q3 : ((i : Int) < (l0.length : Int)) = True := eq_true (by omega)
       obtain ⟨adN, eN, hxN⟩ := kp_at (Kd.F_now F8.out) i (by rw [List.length_map, List.length_range]; exact hi)
       cases eN
       rw [show ((List.range l0.length).map D.g)[i]'(by rw [List.length_map, List.length_range]; exact hi) = D.g i by simp] at hxN
       have HSM := am (show Sm (cs2 i) from (fix_bd l0.length 0 HN6.out _ D.rds D.ch (p : Int) cs2 S3.out.2.2.1 (fun q => by rw [E7.out]; exact chS_len _ _ _) (fun j _ hj => HFX0.out j hj) 6 i (by omega) (by omega) hi (by have := HN6.out; omega)).sm (by omega))
       go_upto_region 16 with (first | ((with_reducible refine gate_callee (f := 16) rfl ?_); refine goesL_ (some 50) rfl rfl Tryd.func16 (by kernel_rfl) rfl #[.pointer (some ⟨D.g i, 0, none⟩)] rfl (by (try simp only [List.map_toArray, List.map_cons, List.map_nil]); first | done | rfl) ?_; (with_reducible refine (choose_any w2.heap.size w3.heap.size l0.length D cs2 lt2 i _ T8.out S3.out HI1.out HSM.out).mono ?_); rintro e w15 ⟨rfl, h1, h2, h3⟩; refine ⟨_, rfl, ?_⟩; have T9 := am h1; have K9 := am h2; have B9 := am h3; clear h1 h2 h3))
       obtain ⟨li, hli⟩ : ∃ li, li = (best4 (cs2 i) (fromOf D lt2 i)).1 := ⟨_, rfl⟩
       have HLI := am (show li = lS l0 l1 (p : Int) i by
        rw [hli]
        unfold lS
        have hpa : ∀ i, i < l0.length → ∀ j, paS l1 i = some j → j < i := by
         have h := S3.out.2.2.2
         rw [E6.out] at h
         exact h
        rw [lF_step _ _ l0.length hpa i hi, HRE.out i hi]
        congr 2
        unfold fromOf fromP
        rw [E6.out]
        cases hpi : paS l1 i with
        | none => rfl
        | some q => exact HLT.out q (hpa i hi q hpi))
       rw [← hli] at T9
       obtain ⟨tx, htx⟩ : ∃ tx, tx = fillTo (fun q => lS l0 l1 (q : Int) i) p := ⟨_, rfl⟩
       have HTX := am htx
       have O9 := am (R_kb O8.out K9.out (T8.out i hi).1)
       have F9 := am (Kd.F_keep F8.out K9.out (fun k hk => hk.2 i hi))
       have B9 := am (below_weaken B8.out HS2.out B9.out)
       have HW9 := am (Nat.le_trans HW8.out K9.out.1)
       clear hli htx K9 O8 F8 B8 T8 hxN HW8
       have k1 : w15.cell? ⟨go, i, none⟩ = some (.string tx) := by
        have h := (Kd.R_celln ByteArray.empty O9.out (i : Int) (by omega) (by omega)).1
        rw [Int.toNat_natCast, fl_get _ _ _ _ _ hi, if_neg (by omega), ← HTX.out] at h
        exact h
       have k2 : w15.cell? ⟨D.g i, 7, none⟩ = some (.int .i64 li) := by
        have h := (blk_cell (T9.out i hi).1 7).trans rfl
        rw [upf_same] at h
        exact h
       refine start_ (n := 15) (S := fun w' => w'.cell? ⟨go, i, none⟩ = some (.string tx) ∧ w'.cell? ⟨D.g i, 7, none⟩ = some (.int .i64 li)) (ds := [14]) #[F,F,F,F,F,F,F,F,F,F,F,F,F,F,F] (by kernel_rfl) rfl rfl ⟨k1, k2⟩ (fun hHeld => ?_)
       clear k1 k2
       have T10 := am (T9.out.below (below_drew1 (Below.refl _ _)))
       have O10 := am (Kd.R_drew O9.out)
       have F10 := am (Kd.F_drew F9.out)
       have B10 := am (below_drew1 B9.out)
       have HW16 := am (show w2.heap.size ≤ w15.drew.heap.size from HW9.out)
       clear T9 O9 F9 B9 HW9
       generalize w15.drew = w16 at T10 O10 F10 B10 HW16 hHeld ⊢
       refine pz 0 (some 51) #[T,F,F,F,F,F,F,F,F,F,F,F,F,F,F] (by kernel_rfl) (h := ?_)
       refine pz 1 (some 52) #[T,T,F,F,F,F,F,F,F,F,F,F,F,F,F] (by kernel_rfl) (h := ?_)
       refine pz 2 (some 53) #[T,T,T,F,F,F,F,F,F,F,F,F,F,F,F] (by kernel_rfl) (h := ?_)
       refine tz hHeld 3 (some 54) #[T,T,T,T,F,F,F,F,F,F,F,F,F,F,F] (by kernel_rfl) (h := ?_)
       refine pz 4 (some 55) #[T,T,T,T,T,F,F,F,F,F,F,F,F,F,F] (by kernel_rfl) (h := ?_)
       refine pz 5 (some 56) #[T,T,T,T,T,T,F,F,F,F,F,F,F,F,F] (by kernel_rfl) (h := ?_)
       refine pz 6 (some 57) #[T,T,T,T,T,T,T,F,F,F,F,F,F,F,F] (by kernel_rfl) (h := ?_)
       refine tz hHeld 7 (some 58) #[T,T,T,T,T,T,T,T,F,F,F,F,F,F,F] (by kernel_rfl) (h := ?_)
       refine pz 8 (some 59) #[T,T,T,T,T,T,T,T,T,F,F,F,F,F,F] (by kernel_rfl) (h := ?_)
       refine pz 9 (some 60) #[T,T,T,T,T,T,T,T,T,T,F,F,F,F,F] (by kernel_rfl) (h := ?_)
       obtain ⟨lx, hlx⟩ : ∃ lx, lx = IntKind.u8.wrap (97 + IntKind.u8.wrap li) := ⟨_, rfl⟩
       have hcv := ltr_conv w16 lx
       obtain ⟨lb, hlb⟩ : ∃ lb, lb = strOfNums [lx] := ⟨_, rfl⟩
       rw [← hlb] at hcv
       have HLB := am (show lb = ltr li by rw [hlb, hlx]; rfl)
       have hsz1 : (9223372036854775807 < tx.size + lb.size) = False := eq_false (by rw [HTX.out, fillTo_size, HLB.out, ltr_size]; have := HPL.out; have := HOK.out.2.2.2.2.2; omega)
       clear hlb
       rw [← hlx]
       clear hlx
       refine one_ (i := 10) (N := some 61) #[T,T,T,T,T,T,T,T,T,T,T,F,F,F,F] rfl rfl (by kernel_rfl) (by decide) (fun K hK => ?_)
       refine value_ (w1 := ?_) (v := ?_) (by rfl) rfl ?_ ?_
       rotate_left 2
       ·go_simp
        constructor
        ·rfl
        ·rfl
       refine hK.out _ _ ⟨pw_cell_below (below_alloc (Below.refl _ _) _) hHeld.1, pw_cell_below (below_alloc (Below.refl _ _) _) hHeld.2⟩ (fun hHeld => ?_)
       clear hK K
       refine norm_ (a' := ?_) ?_ ?_
       rotate_left
       ·show Act.put _ (some 61) _ = _
        simp only [Act.put, sA, sZ, sS, i64_w, i32_w]
        rfl
       refine one_ (i := 11) (N := some 62) #[T,T,T,T,T,T,T,T,T,T,T,T,F,F,F] rfl rfl (by kernel_rfl) (by decide) (fun K hK => ?_)
       refine value_ (w1 := ?_) (v := ?_) (by rfl) rfl ?_ ?_
       rotate_left 2
       ·go_simp
        constructor
        ·rfl
        ·rfl
       refine hK.out _ _ ⟨hHeld.1, hHeld.2⟩ (fun hHeld => ?_)
       clear hK K
       refine norm_ (a' := ?_) ?_ ?_
       rotate_left
       ·show Act.put _ (some 62) _ = _
        simp only [Act.put, sA, sZ, sS, i64_w, i32_w]
        rfl
       refine pz 12 (some 63) #[T,T,T,T,T,T,T,T,T,T,T,T,T,F,F] (by kernel_rfl) (h := ?_)
       refine pz 13 (some 64) #[T,T,T,T,T,T,T,T,T,T,T,T,T,T,F] (by kernel_rfl) (h := ?_)
       clear hHeld hcv hsz1
       have T11 := am (T10.out.below (below_alloc (Below.refl _ _) (.cells #[.int .u8 lx] 5)))
       have O11 := am (Kd.R_alloc O10.out (.cells #[.int .u8 lx] 5))
       have F11 := am (Kd.F_alloc F10.out (.cells #[.int .u8 lx] 5))
       have B11 := am (below_alloc B10.out (.cells #[.int .u8 lx] 5))
       have HW17 := am (Nat.le_trans HW16.out (below_alloc (Below.refl w16.heap.size w16) (.cells #[.int .u8 lx] 5)).size)
       clear T10 O10 F10 B10
       generalize w16.alloc (.cells #[.int .u8 lx] 5) = w17 at T11 O11 F11 B11 HW17 ⊢
       obtain ⟨qc, qf⟩ := Kd.R_celln ByteArray.empty O11.out (i : Int) (by omega) (by have := HI1.out; omega)
       rw [Int.toNat_natCast] at qc qf
       refine last_ (i := 14) (N := none) #[T,T,T,T,T,T,T,T,T,T,T,T,T,T,T] rfl rfl (by kernel_rfl) (by decide) (fun K hK => ?_)
       refine skip_ (w1 := ?_) (by rfl) rfl ?_ ?_
       rotate_left
       ·go_simp
        rfl
       refine hK.out _ _ ?_
       clear hK K
       refine done_ (by kernel_rfl) ?_
       clear qc qf
       have hw4 : wrap64 ((i : Int) + 1) = ((i + 1 : Nat) : Int) := by unfold wrap64; have := HN6.out; have := HI1.out; omega
       go_wp2_with fail
       go_roundg (l0.length - (i + 1))
       case measure => have := HI2.out; have := HI1.out; omega
       case rel =>
        have hgo : ∀ j, j < l0.length → D.g j ≠ go := fun j hj => by
         obtain ⟨cells, hc⟩ := Kd.R_typed O11.out go (by simp [Value.ownBlock])
         exact blk_ne (T11.out j hj).1 hc (by decide)
        have HO := Kd.R_putn O11.out (i : Int) (tx ++ lb)
        rw [Int.toNat_natCast, fl_set _ _ _ _ _ (show tx ++ lb = fillTo (fun q => lS l0 l1 (q : Int) i) (p + 1) by rw [fillTo, ← HTX.out, HLB.out, HLI.out])] at HO
        refine ⟨i + 1, upf lt2 i li, by first | rfl | simp [hw4], ⟨by have := HI1.out; omega, rfl⟩, ⟨T11.out.far HGN.out hgo _⟩, ⟨fun j hj => ?_⟩, ⟨HO⟩, ⟨Kd.F_far F11.out (fun k hk e => by have := hk.1; have := HGN.out; simp only at e; omega) _⟩, ⟨below_set B11.out HGB.out⟩, ⟨?_⟩⟩
        ·by_cases e : j = i
         ·subst e
          rw [upf_same]
          exact HLI.out
         ·rw [upf_ne _ _ _ _ e]
          exact HLT.out j (by omega)
        ·have h := B11.out.size
         have h2 := HS2.out
         have h3 := HW17.out
         simpa [World.setCell] using h3
      ·have ei : i = l0.length := by have := HI2.out; omega
       subst ei
       have b4 : decide ((l0.length : Int) < (l0.length : Int)) = false := decide_eq_false (by omega)
       have hw3 : wrap64 ((p : Int) + 1) = ((p + 1 : Nat) : Int) := by unfold wrap64; have := HOK.out.2.2.2.2.2; have := HPL.out; omega
       go_wp2_with fail
       go_roundg ((rdsS l0 0).size - (p + 1))
       case measure => have := HP.out; have := HPL.out; omega
       case rel => exact ⟨p + 1, cs2, lt2, by first | rfl | simp [hw3], ⟨by have := HPL.out; omega, rfl⟩, T8, ⟨by rw [← fl_next]; exact O8.out⟩, F8, B8, HW8⟩
    ·obtain ⟨i, rfl⟩ : ∃ i, i0 = i + 1 := ⟨i0 - 1, by omega⟩
     have hi : i < l0.length := by have := HI.out.1; omega
     have HI1 := am hi
     have ei : ((i + 1 : Nat) : Int) - 1 = (i : Int) := by omega
     rw [ei]
     have b2 : decide ((i : Int) ≥ 0) = true := decide_eq_true (by omega)
     have b3 : decide (0 ≤ (i : Int)) = true := decide_eq_true (by omega)
     obtain ⟨adN, eN, hxN⟩ := kp_at (Kd.F_now F6.out) i (by rw [List.length_map, List.length_range]; exact hi)
     cases eN
     rw [show ((List.range l0.length).map D.g)[i]'(by rw [List.length_map, List.length_range]; exact hi) = D.g i by simp] at hxN
     have q2 : (0 ≤ (i : Int)) = True := eq_true (by omega)
     have q3 : ((i : Int) < (l0.length : Int)) = True := eq_true (by omega)
     have hsz : (D.rds i).size = (rdsS l0 0).size := by rw [E5.out]; exact HOK.out.2.2.2.2.1 i hi
     have HP1 := am (show 0 ≤ (p : Int) by omega)
     have HP2 := am (show (p : Int) < (D.rds i).size by rw [hsz]; have := HPL.out; omega)
     have HLO := am (isLost_some (D.rds i) (by rw [hsz]; have := HOK.out.2.2.2.2.2; omega))
     have HSM := am (show ∀ k ∈ D.ch i, Sm (cs2 k) from fun k hk => by
      have h := S3.out.2.2.1 i hi k hk
      exact (fix_bd l0.length (i + 1) HN6.out _ D.rds D.ch (p : Int) cs2 S3.out.2.2.1 (fun q => by rw [E7.out]; exact chS_len _ _ _) HFX.out 6 k (by omega) (by omega) h.1 (by have := HN6.out; omega)).sm (by omega))
     clear hsz
     have hw2 : wrap64 ((i : Int) - 1) = (i : Int) - 1 := by unfold wrap64; have := HN6.out; omega
     go_wp2_with (first | ((with_reducible refine gate_callee (f := 15) rfl ?_); refine goesL_ (some 41) rfl rfl Tryd.func15 (by kernel_rfl) rfl #[.pointer (some ⟨D.g i, 0, none⟩), .int .i64 (p : Int)] rfl (by (try simp only [List.map_toArray, List.map_cons, List.map_nil]); first | done | rfl) ?_; (with_reducible refine (count_any w2.heap.size w3.heap.size l0.length D cs2 lt i (p : Int) (isL (D.rds i)) _ T6.out S3.out HI1.out HP1.out HP2.out HLO.out HSM.out HW2.out).mono ?_); rintro e w15 ⟨rfl, h1, h2, h3⟩; refine ⟨_, rfl, ?_⟩; have T7 := am h1; have K7 := am h2; have B7 := am h3; clear h1 h2 h3))
     go_roundg i
     case measure => have := HI.out; omega
     case rel =>
      refine ⟨i, _, by first | rfl | simp [hw2], ⟨by omega, rfl⟩, T7, ⟨fun j h1 h2 => ?_⟩, ⟨R_kb O6.out K7.out (T6.out i hi).1⟩, ⟨Kd.F_keep F6.out K7.out (fun k hk => hk.2 i hi)⟩, ⟨below_weaken B6.out HS2.out B7.out⟩, ⟨Nat.le_trans HW2.out K7.out.1⟩⟩
      by_cases e : j = i
      ·subst e
       rw [upf_same]
       exact cnt4_congr _ _ _ _ (fun k hk => (upf_ne _ _ _ _ (by have := S3.out.2.2.1 j hi k hk; omega)).symm)
      ·rw [upf_ne _ _ _ _ e, HFX.out j (by omega) h2]
       exact cnt4_congr _ _ _ _ (fun k hk => (upf_ne _ _ _ _ (by have := S3.out.2.2.1 j h2 k hk; omega)).symm)
  ·have ep : p = (rdsS l0 0).size := by have := HP.out; omega
   subst ep
   have b1 : decide (((rdsS l0 0).size : Int) < (rd0.size : Int)) = false := decide_eq_false (by rw [HRD.out]; omega)
   have b1n : decide ((rdsS l0 0).size < rd0.size) = false := decide_eq_false (by rw [HRD.out]; omega)
   clear hx1
   go_wp2_with fail
   go_ret2
   exact ⟨_, rfl, O5.out, B5.out⟩
def okB (l0 : List ByteArray) (l1 : List Int) : Bool := decide (1 ≤ l0.length) && decide (l0.length ≤ 6) && decide (l1.length = l0.length) && (List.range l0.length).all (fun k => k == 0 || (decide (0 ≤ rd l1 (k : Int)) && decide (rd l1 (k : Int) < (k : Int)))) && (List.range l0.length).all (fun j => decide ((rdsS l0 j).size = (rdsS l0 0).size)) && decide ((rdsS l0 0).size ≤ 8)
theorem okB_ok (l0 : List ByteArray) (l1 : List Int) : okB l0 l1 = true ↔ FillOk l0 l1 := by
 unfold okB FillOk StemOk
 simp only [Bool.and_eq_true, decide_eq_true_eq, List.all_eq_true, List.mem_range, Bool.or_eq_true, beq_iff_eq]
 constructor
 ·rintro ⟨⟨⟨⟨⟨h1, h2⟩, h3⟩, h4⟩, h5⟩, h6⟩
  exact ⟨h1, h2, h3, fun k hk hn => (h4 k hn).resolve_left (by omega), h5, h6⟩
 ·rintro ⟨h1, h2, h3, h4, h5, h6⟩
  refine ⟨⟨⟨⟨⟨h1, h2⟩, h3⟩, fun k hn => ?_⟩, h5⟩, h6⟩
  by_cases hk : k = 0
  ·exact .inl hk
  ·exact .inr (h4 k (by omega) hn)
def impl_StemFill.f (n : Nat) (l0 : List ByteArray) (l1 : List Int) : Option (List ByteArray × Bool) := (impl_StemValid.f n l0 l1).bind fun b => if b = true then (if okB l0 l1 = true then some (fillS l0 l1, true) else none) else some ([], false)
set_option maxHeartbeats 4000000 in
set_option maxRecDepth 100000 in
theorem fill_none (n : Nat) (A0 : Option Addr) (c0 : Nat) (l0 : List ByteArray) (A1 : Option Addr) (c1 : Nat) (l1 : List Int) (w : World) (hr0 : Kd.C Kd.string w A0 l0.length l0) (hc0 : l0.length ≤ c0) (hr1 : Kd.C (Kd.int .i64) w A1 l1.length l1) (hc1 : l1.length ≤ c1) (hv : impl_StemValid.f n l0 l1 = some false) :
  Calls Tryd.prog 5 #[.slice A0 l0.length c0, .slice A1 l1.length c1] w fun e w' => ∃ v0_ : Value, e = .returned (.tuple #[v0_, .bool false]) ∧ Kd.R Kd.string 9 w' w.heap.size (fun _ => True) v0_ [] ∧ Below w.heap.size w w' := by
 have HR0 := am hr0
 have HC0 := am hc0
 have HR1 := am hr1
 have HC1 := am hc1
 have HV := am hv
 clear hr0 hc0 hr1 hc1 hv
 go_enter Tryd.func5, Tryd.ntmps5
 go_wp2_with (first | ((with_reducible refine gate_callee (f := 13) rfl ?_); refine goesL_ (some 14) rfl rfl Tryd.func13 (by kernel_rfl) rfl #[.slice A0 l0.length c0, .slice A1 l1.length c1] rfl (by (try simp only [List.map_toArray, List.map_cons, List.map_nil]); first | done | rfl) ?_; (with_reducible refine (impl_StemValid.calls n A0 c0 l0 A1 c1 l1 false _ HR0.out HC0.out HR1.out HC1.out HV.out).mono ?_); rintro e w2 ⟨rfl, hb⟩; refine ⟨_, rfl, ?_⟩; have B2 := am hb; clear hb))
 go_ret2
 exact ⟨_, rfl, Kd.R_nil _ _ _ _ _, B2.out⟩
theorem impl_StemFill.calls (n : Nat) (A0 : Option Addr) (c0 : Nat) (l0 : List ByteArray) (A1 : Option Addr) (c1 : Nat) (l1 : List Int) (r1 : List ByteArray) (r2 : Bool) (w : World) (hr0 : Kd.C Kd.string w A0 l0.length l0) (hc0 : l0.length ≤ c0) (hr1 : Kd.C (Kd.int .i64) w A1 l1.length l1) (hc1 : l1.length ≤ c1) (h : impl_StemFill.f n l0 l1 = some (r1, r2)) :
  Calls Tryd.prog 5 #[.slice A0 l0.length c0, .slice A1 l1.length c1] w fun e w' => ∃ v0_ : Value, e = .returned (.tuple #[v0_, .bool r2]) ∧ Kd.R Kd.string 9 w' w.heap.size (fun _ => True) v0_ r1 ∧ Below w.heap.size w w' := by
 unfold impl_StemFill.f at h
 obtain ⟨b, hb, h⟩ := Option.bind_eq_some_iff.mp h
 cases b with
 | true =>
  rw [if_pos rfl] at h
  by_cases ho : okB l0 l1 = true
  ·rw [if_pos ho] at h
   cases h
   exact fill_any n A0 c0 l0 A1 c1 l1 w hr0 hc0 hr1 hc1 hb ((okB_ok l0 l1).1 ho)
  ·rw [if_neg ho] at h
   cases h
 | false =>
  rw [if_neg (by decide)] at h
  cases h
  exact fill_none n A0 c0 l0 A1 c1 l1 w hr0 hc0 hr1 hc1 hb


/-! ### spec_l6In: function 28 -/
def spec_l6In.f (a0 : Int) (a1 : Int) (a2 : Int) : Option (Bool) := if a0 ≥ a1 then (some (decide (a0 ≤ a2))) else (some false)
set_option maxHeartbeats 8000000 in
set_option maxRecDepth 100000 in
theorem spec_l6In.calls (a0 : Int) (a1 : Int) (a2 : Int) (r : Bool) (w : World) (h : spec_l6In.f a0 a1 a2 = some r) :
  Calls Tryd.prog 28 #[.int .i64 a0, .int .i64 a1, .int .i64 a2] w fun e w' => e = .returned (.bool r) ∧ Drawn0 w w' := by
 have H : (if a0 ≥ a1 then (some (decide (a0 ≤ a2))) else (some false)) = some r := h
 clear h
 by_cases c4 : a0 ≥ a1
 ·rw [if_pos c4] at H
  have c4b0 : decide (a1 ≤ a0) = true := decide_eq_true c4
  clear c4
  obtain rfl := Option.some.inj H
  go_enter Tryd.func28, Tryd.ntmps28
  go_wp2
  go_ret
  exact ⟨by first | rfl | (simp; done) | (simp [*]; done), by repeat (first | exact Drawn0.refl _ | apply Drawn0.step)⟩
 ·rw [if_neg c4] at H
  have c4b0 : decide (a1 ≤ a0) = false := decide_eq_false c4
  clear c4
  obtain rfl := Option.some.inj H
  go_enter Tryd.func28, Tryd.ntmps28
  go_wp2
  go_ret
  exact ⟨by first | rfl | (simp; done) | (simp [*]; done), by repeat (first | exact Drawn0.refl _ | apply Drawn0.step)⟩

/-! ### spec_l7Reading: function 33 -/
def spec_l7Reading.l0 : Nat → ByteArray → Int → Option (Bool)
 | 0, _, _ => none
 | k + 1, x0, x3 => if x3 < (x0.size : Int) then (if 0 ≤ x3 then (if (bt x0 x3) < 97 then (some false) else (if (bt x0 x3) > 100 then (some false) else (spec_l7Reading.l0 k x0 (wrap64 (x3 + 1))))) else (none)) else (some true)
def spec_l7Reading.f (k : Nat) (a0 : ByteArray) : Option (Bool) := spec_l7Reading.l0 k a0 0
set_option maxHeartbeats 8000000 in
set_option maxRecDepth 100000 in
theorem spec_l7Reading.calls (k : Nat) (a0 : ByteArray) (r : Bool) (w : World) (h : spec_l7Reading.f k a0 = some r) :
  Calls Tryd.prog 33 #[.string a0] w fun e w' => e = .returned (.bool r) ∧ Drawn0 w w' := by
 have H : (spec_l7Reading.l0 k a0 0) = some r := h
 clear h
 have H' := am H
 clear H
 go_enter Tryd.func33, Tryd.ntmps33
 go_wp2
 go_loopg [3] k (fun kq v3 w' => ∃ (x3_1 : Int), v3 = .int .i64 x3_1 ∧ Aside0 (spec_l7Reading.l0 kq a0 x3_1 = some r) ∧ Aside0 (kq ≤ k) ∧ Drawn0 w w')
 case atStart => exact ⟨(0), (by first | rfl | (simp; done) | (simp [*]; done)), H', ⟨Nat.le_refl _⟩, by repeat (first | exact Drawn0.refl _ | apply Drawn0.step)⟩
 case round =>
  clear H'
  obtain ⟨x3_1, rfl, HA, HK1, ⟨m1, rfl⟩⟩ := hrel
  cases gk with
  | zero => exact absurd HA.out (by simp [spec_l7Reading.l0])
  | succ k1 =>
   have H := HA.out
   clear HA
   simp only [spec_l7Reading.l0] at H
   by_cases c2 : x3_1 < (a0.size : Int)
   ·rw [if_pos c2] at H
    have c2b0 : decide (x3_1 < (a0.size : Int)) = true := decide_eq_true c2
    clear c2
    by_cases c3 : 0 ≤ x3_1
    ·rw [if_pos c3] at H
     have c3b0 : decide (0 ≤ x3_1) = true := decide_eq_true c3
     clear c3
     by_cases c5 : (bt a0 x3_1) < 97
     ·rw [if_pos c5] at H
      have c5b0 : decide ((bt a0 x3_1) < 97) = true := decide_eq_true c5
      clear c5
      obtain rfl := Option.some.inj H
      have p4 : 0 ≤ (x3_1 : Int) := od
      have q4 : x3_1 < (a0.size : Int) := od
      have hx4 := bt_at a0 x3_1
      replace p4 := eq_true p4
      replace q4 := eq_true q4
      go_wp2
      go_ret
      exact ⟨by first | rfl | (simp; done) | (simp [*]; done), by repeat (first | exact Drawn0.refl _ | apply Drawn0.step)⟩
     ·rw [if_neg c5] at H
      have c5b0 : decide ((bt a0 x3_1) < 97) = false := decide_eq_false c5
      clear c5
      by_cases c7 : (bt a0 x3_1) > 100
      ·rw [if_pos c7] at H
       have c7b0 : decide (100 < (bt a0 x3_1)) = true := decide_eq_true c7
       clear c7
       obtain rfl := Option.some.inj H
       have p4 : 0 ≤ (x3_1 : Int) := od
       have q4 : x3_1 < (a0.size : Int) := od
       have hx4 := bt_at a0 x3_1
       replace p4 := eq_true p4
       replace q4 := eq_true q4
       have p6 : 0 ≤ (x3_1 : Int) := od
       have q6 : x3_1 < (a0.size : Int) := od
       have hx6 := bt_at a0 x3_1
       replace p6 := eq_true p6
       replace q6 := eq_true q6
       go_wp2
       go_ret
       exact ⟨by first | rfl | (simp; done) | (simp [*]; done), by repeat (first | exact Drawn0.refl _ | apply Drawn0.step)⟩
      ·rw [if_neg c7] at H
       have c7b0 : decide (100 < (bt a0 x3_1)) = false := decide_eq_false c7
       clear c7
       have H' := am H
       clear H
       have p4 : 0 ≤ (x3_1 : Int) := od
       have q4 : x3_1 < (a0.size : Int) := od
       have hx4 := bt_at a0 x3_1
       replace p4 := eq_true p4
       replace q4 := eq_true q4
       have p6 : 0 ≤ (x3_1 : Int) := od
       have q6 : x3_1 < (a0.size : Int) := od
       have hx6 := bt_at a0 x3_1
       replace p6 := eq_true p6
       replace q6 := eq_true q6
       go_wp2
       go_roundg k1
       case measure => have := HK1.out; omega
       case rel => exact ⟨(wrap64 (x3_1 + 1)), (by first | rfl | (simp; done) | (simp [*]; done)), H', ⟨by have := HK1.out; omega⟩, by repeat (first | exact Drawn0.refl _ | apply Drawn0.step)⟩
    ·rw [if_neg c3] at H
     exact absurd H (by simp)
   ·rw [if_neg c2] at H
    have c2b0 : decide (x3_1 < (a0.size : Int)) = false := decide_eq_false c2
    clear c2
    obtain rfl := Option.some.inj H
    go_wp2
    go_ret
    exact ⟨by first | rfl | (simp; done) | (simp [*]; done), by repeat (first | exact Drawn0.refl _ | apply Drawn0.step)⟩

/-! ### spec_l7Lost: function 34 -/
def spec_l7Lost.l0 : Nat → ByteArray → Int → Option (Bool)
 | 0, _, _ => none
 | k + 1, x0, x3 => if x3 < (x0.size : Int) then (if 0 ≤ x3 then (if (bt x0 x3) = 63 then (spec_l7Lost.l0 k x0 (wrap64 (x3 + 1))) else (some false)) else (none)) else (some true)
def spec_l7Lost.f (k : Nat) (a0 : ByteArray) : Option (Bool) := spec_l7Lost.l0 k a0 0
set_option maxHeartbeats 8000000 in
set_option maxRecDepth 100000 in
theorem spec_l7Lost.calls (k : Nat) (a0 : ByteArray) (r : Bool) (w : World) (h : spec_l7Lost.f k a0 = some r) :
  Calls Tryd.prog 34 #[.string a0] w fun e w' => e = .returned (.bool r) ∧ Drawn0 w w' := by
 have H : (spec_l7Lost.l0 k a0 0) = some r := h
 clear h
 have H' := am H
 clear H
 go_enter Tryd.func34, Tryd.ntmps34
 go_wp2
 go_loopg [3] k (fun kq v3 w' => ∃ (x3_1 : Int), v3 = .int .i64 x3_1 ∧ Aside0 (spec_l7Lost.l0 kq a0 x3_1 = some r) ∧ Aside0 (kq ≤ k) ∧ Drawn0 w w')
 case atStart => exact ⟨(0), (by first | rfl | (simp; done) | (simp [*]; done)), H', ⟨Nat.le_refl _⟩, by repeat (first | exact Drawn0.refl _ | apply Drawn0.step)⟩
 case round =>
  clear H'
  obtain ⟨x3_1, rfl, HA, HK1, ⟨m1, rfl⟩⟩ := hrel
  cases gk with
  | zero => exact absurd HA.out (by simp [spec_l7Lost.l0])
  | succ k1 =>
   have H := HA.out
   clear HA
   simp only [spec_l7Lost.l0] at H
   by_cases c2 : x3_1 < (a0.size : Int)
   ·rw [if_pos c2] at H
    have c2b0 : decide (x3_1 < (a0.size : Int)) = true := decide_eq_true c2
    clear c2
    by_cases c3 : 0 ≤ x3_1
    ·rw [if_pos c3] at H
     have c3b0 : decide (0 ≤ x3_1) = true := decide_eq_true c3
     clear c3
     by_cases c5 : (bt a0 x3_1) = 63
     ·rw [if_pos c5] at H
      have c5b0 : ((bt a0 x3_1) == 63) = true := beq_iff_eq.mpr c5
      have c5b1 : ((bt a0 x3_1) != 63) = false := bne_eq_false_iff_eq.mpr c5
      clear c5
      have H' := am H
      clear H
      have p4 : 0 ≤ (x3_1 : Int) := od
      have q4 : x3_1 < (a0.size : Int) := od
      have hx4 := bt_at a0 x3_1
      replace p4 := eq_true p4
      replace q4 := eq_true q4
      go_wp2
      go_roundg k1
      case measure => have := HK1.out; omega
      case rel => exact ⟨(wrap64 (x3_1 + 1)), (by first | rfl | (simp; done) | (simp [*]; done)), H', ⟨by have := HK1.out; omega⟩, by repeat (first | exact Drawn0.refl _ | apply Drawn0.step)⟩
     ·rw [if_neg c5] at H
      have c5b0 : ((bt a0 x3_1) == 63) = false := beq_eq_false_iff_ne.mpr c5
      have c5b1 : ((bt a0 x3_1) != 63) = true := bne_iff_ne.mpr c5
      obtain rfl := Option.some.inj H
      have p4 : 0 ≤ (x3_1 : Int) := od
      have q4 : x3_1 < (a0.size : Int) := od
      have hx4 := bt_at a0 x3_1
      replace p4 := eq_true p4
      replace q4 := eq_true q4
      go_wp2
      go_ret
      exact ⟨by first | rfl | (simp; done) | (simp [*]; done), by repeat (first | exact Drawn0.refl _ | apply Drawn0.step)⟩
    ·rw [if_neg c3] at H
     exact absurd H (by simp)
   ·rw [if_neg c2] at H
    have c2b0 : decide (x3_1 < (a0.size : Int)) = false := decide_eq_false c2
    clear c2
    obtain rfl := Option.some.inj H
    go_wp2
    go_ret
    exact ⟨by first | rfl | (simp; done) | (simp [*]; done), by repeat (first | exact Drawn0.refl _ | apply Drawn0.step)⟩

end Go.Proofs.YtdodkidnblmheaaDoor.SL
