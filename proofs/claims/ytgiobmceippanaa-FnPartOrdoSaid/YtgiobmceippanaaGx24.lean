-- Made by this session's gprint.py out of the translation. Not trusted: Lean checks it.
import Derived.Test.YtgiobmceippanaaGx0
import Derived.Test.YtgiobmceippanaaGx2
import Derived.Test.YtgiobmceippanaaGx5
import Derived.Test.YtgiobmceippanaaGx6
namespace Go.Proofs.Ytgiobmceippanaa.G
open Go.RowKit Go.Proofs.YtgiobmceippanaaW.PrintWords Go.Proofs.YtgiobmceippanaaW.PrintLast Go.Proofs.YtgiobmceippanaaW.PrintMore
attribute [local go_sem] max2_int min2_int max_two min_two max_three min_three max_four min_four   -- for this text's walks alone
set_option linter.unusedVariables false
set_option linter.unusedSimpArgs false

attribute [local go_sem high] eqA61
/-! ### laws_sameVoices: function 24 -/
def laws_sameVoices.l0 : Nat → List (S61) → List (S61) → Int → Option (Bool)
  | 0, _, _, _ => none
  | k + 1, x0, x1, x5 => if x5 < (x0.length : Int) then (if 0 ≤ x5 then (if x5 < (x1.length : Int) then (if ((!(((rd_T61 x0 x5).f0.f0) == ((rd_T61 x1 x5).f0.f0)) || (!(((rd_T61 x0 x5).f0.f1) == ((rd_T61 x1 x5).f0.f1)))) || (!(((rd_T61 x0 x5).f1) == ((rd_T61 x1 x5).f1)))) = true then (some false) else (laws_sameVoices.l0 k x0 x1 (wrap64 (x5 + 1)))) else (none)) else (none)) else (some true)
def laws_sameVoices.f (k : Nat) (l0 : List (S61)) (l1 : List (S61)) : Option (Bool) := if (l0.length : Int) = (l1.length : Int) then (laws_sameVoices.l0 k l0 l1 0) else (some false)
theorem laws_sameVoices.mono_l : ∀ k, (∀ y0 y1 y2, LeO (laws_sameVoices.l0 k y0 y1 y2) (laws_sameVoices.l0 (k + 1) y0 y1 y2))
  | 0 => fun _ _ _ r h => by simp [laws_sameVoices.l0] at h
  | k + 1 => by
    have ih0 := laws_sameVoices.mono_l k
    · intro y0 y1 y2
      unfold laws_sameVoices.l0
      repeat' first
      | (with_reducible exact ih0 _ _ _)
      | (with_reducible exact LeO.refl _)
      | (with_reducible exact LeO.none _)
      | (with_reducible refine LeO.ite ?_ ?_)
      | (with_reducible refine LeO.bind ?_ (fun _ => ?_))
      | exact ih0 _ _ _
      | exact LeO.none _
      | refine LeO.ite ?_ ?_
      | refine LeO.bind ?_ (fun _ => ?_)
theorem laws_sameVoices.mono : ∀ a0 a1 k, LeO (laws_sameVoices.f k a0 a1) (laws_sameVoices.f (k + 1) a0 a1) := by
  intro a0 a1 k
  have ih0 := laws_sameVoices.mono_l k
  unfold laws_sameVoices.f
  repeat' first
      | (with_reducible exact ih0 _ _ _)
      | (with_reducible exact LeO.refl _)
      | (with_reducible exact LeO.none _)
      | (with_reducible refine LeO.ite ?_ ?_)
      | (with_reducible refine LeO.bind ?_ (fun _ => ?_))
      | exact ih0 _ _ _
      | exact LeO.none _
      | refine LeO.ite ?_ ?_
      | refine LeO.bind ?_ (fun _ => ?_)
set_option maxHeartbeats 8000000 in
set_option maxRecDepth 100000 in
theorem laws_sameVoices.calls (k : Nat) (A0 : Option Addr) (c0 : Nat) (l0 : List (S61)) (A1 : Option Addr) (c1 : Nat) (l1 : List (S61)) (r : Bool) (w : World) (hr0 : Kd.C k61 w A0 l0.length l0) (hc0 : l0.length ≤ c0) (hr1 : Kd.C k61 w A1 l1.length l1) (hc1 : l1.length ≤ c1) (h : laws_sameVoices.f k l0 l1 = some r) :
    Calls Try.prog 24 #[.slice A0 l0.length c0, .slice A1 l1.length c1] w fun e w' => e = .returned (.bool r) ∧ Drawn0 w w' := by
  have hu61 := Try.underlying61
  have HR0 := Aside0.mk hr0
  have HC0 := Aside0.mk hc0
  clear hr0 hc0
  have HR1 := Aside0.mk hr1
  have HC1 := Aside0.mk hc1
  clear hr1 hc1
  have H : (if (l0.length : Int) = (l1.length : Int) then (laws_sameVoices.l0 k l0 l1 0) else (some false)) = some r := h
  clear h
  by_cases c3 : (l0.length : Int) = (l1.length : Int)
  · rw [if_pos c3] at H
    have c3b0 : ((l0.length : Int) == (l1.length : Int)) = true := beq_iff_eq.mpr c3
    have c3b1 : ((l0.length : Int) != (l1.length : Int)) = false := bne_eq_false_iff_eq.mpr c3
    have c3b2 : (l0.length == l1.length) = true := by first | simpa using c3 | (simp at c3 ⊢; omega)
    clear c3
    have H' := Aside0.mk H
    clear H
    go_enter Try.func24, Try.ntmps24
    go_wp2
    repeat (go_quiet (fail); try go_wp2)
    go_loopg [5] k (fun kq v5 w' => ∃ (x5_1 : Int), v5 = .int .i64 x5_1 ∧ Aside0 (laws_sameVoices.l0 kq l0 l1 x5_1 = some r) ∧ Aside0 (kq ≤ k) ∧ Drawn0 w w')
    case atStart => exact ⟨(0), (by first | rfl | (simp; done) | (simp [*]; done)), H', ⟨Nat.le_refl _⟩, by repeat (first | exact Drawn0.refl _ | apply Drawn0.step)⟩
    case round =>
      clear H'
      try clear c1
      try clear c2
      try clear p2
      try clear c3
      try clear c3b0
      try clear c3b1
      try clear c3b2
      obtain ⟨x5_1, rfl, HA, HK1, ⟨m1, rfl⟩⟩ := hrel
      cases gk with
      | zero => exact absurd HA.out (by simp [laws_sameVoices.l0])
      | succ k1 =>
        have H := HA.out
        clear HA
        simp only [laws_sameVoices.l0] at H
        by_cases c4 : x5_1 < (l0.length : Int)
        · rw [if_pos c4] at H
          have c4b0 : decide (x5_1 < (l0.length : Int)) = true := decide_eq_true c4
          clear c4
          by_cases c5 : 0 ≤ x5_1
          · rw [if_pos c5] at H
            have c5b0 : decide (0 ≤ x5_1) = true := decide_eq_true c5
            clear c5
            by_cases c6 : x5_1 < (l1.length : Int)
            · rw [if_pos c6] at H
              have c6b0 : decide (x5_1 < (l1.length : Int)) = true := decide_eq_true c6
              clear c6
              by_cases c7 : ((!(((rd_T61 l0 x5_1).f0.f0) == ((rd_T61 l1 x5_1).f0.f0)) || (!(((rd_T61 l0 x5_1).f0.f1) == ((rd_T61 l1 x5_1).f0.f1)))) || (!(((rd_T61 l0 x5_1).f1) == ((rd_T61 l1 x5_1).f1)))) = true
              · rw [if_pos c7] at H
                have c7b0 : ((!(((rd_T61 l0 x5_1).f0.f0) == ((rd_T61 l1 x5_1).f0.f0)) || (!(((rd_T61 l0 x5_1).f0.f1) == ((rd_T61 l1 x5_1).f0.f1)))) || (!(((rd_T61 l0 x5_1).f1) == ((rd_T61 l1 x5_1).f1)))) = true := c7
                clear c7
                obtain rfl := Option.some.inj H
                have p459 : 0 ≤ (x5_1 : Int) := of_decide_eq_true (by first | (with_reducible assumption) | assumption)
                have q459 : x5_1 < (l0.length : Int) := of_decide_eq_true (by first | (with_reducible assumption) | assumption)
                obtain ⟨ad459, e459, hx459_0, hx459_1, hx459_2⟩ := at_T61 HR0.out x5_1 p459 q459
                cases e459
                replace p459 := eq_true p459
                replace q459 := eq_true q459
                have p460 : 0 ≤ (x5_1 : Int) := of_decide_eq_true (by first | (with_reducible assumption) | assumption)
                have q460 : x5_1 < (l1.length : Int) := of_decide_eq_true (by first | (with_reducible assumption) | assumption)
                obtain ⟨ad460, e460, hx460_0, hx460_1, hx460_2⟩ := at_T61 HR1.out x5_1 p460 q460
                cases e460
                replace p460 := eq_true p460
                replace q460 := eq_true q460
                go_wp2
                repeat (go_quiet (fail); try go_wp2)
                go_ret
                exact ⟨by first | rfl | (simp; done) | (simp [*]; done), by repeat (first | exact Drawn0.refl _ | apply Drawn0.step)⟩
              · rw [if_neg c7] at H
                have c7b0 : ((!(((rd_T61 l0 x5_1).f0.f0) == ((rd_T61 l1 x5_1).f0.f0)) || (!(((rd_T61 l0 x5_1).f0.f1) == ((rd_T61 l1 x5_1).f0.f1)))) || (!(((rd_T61 l0 x5_1).f1) == ((rd_T61 l1 x5_1).f1)))) = false := by simpa using c7
                clear c7
                have H' := Aside0.mk H
                clear H
                have p459 : 0 ≤ (x5_1 : Int) := of_decide_eq_true (by first | (with_reducible assumption) | assumption)
                have q459 : x5_1 < (l0.length : Int) := of_decide_eq_true (by first | (with_reducible assumption) | assumption)
                obtain ⟨ad459, e459, hx459_0, hx459_1, hx459_2⟩ := at_T61 HR0.out x5_1 p459 q459
                cases e459
                replace p459 := eq_true p459
                replace q459 := eq_true q459
                have p460 : 0 ≤ (x5_1 : Int) := of_decide_eq_true (by first | (with_reducible assumption) | assumption)
                have q460 : x5_1 < (l1.length : Int) := of_decide_eq_true (by first | (with_reducible assumption) | assumption)
                obtain ⟨ad460, e460, hx460_0, hx460_1, hx460_2⟩ := at_T61 HR1.out x5_1 p460 q460
                cases e460
                replace p460 := eq_true p460
                replace q460 := eq_true q460
                go_wp2
                repeat (go_quiet (fail); try go_wp2)
                go_roundg k1
                case measure => have := HK1.out; omega
                case rel => exact ⟨(wrap64 (x5_1 + 1)), (by first | rfl | (simp; done) | (simp [*]; done)), H', ⟨by have := HK1.out; omega⟩, by repeat (first | exact Drawn0.refl _ | apply Drawn0.step)⟩
            · rw [if_neg c6] at H
              exact absurd H (by simp)
          · rw [if_neg c5] at H
            exact absurd H (by simp)
        · rw [if_neg c4] at H
          have c4b0 : decide (x5_1 < (l0.length : Int)) = false := decide_eq_false c4
          clear c4
          obtain rfl := Option.some.inj H
          go_wp2
          repeat (go_quiet (fail); try go_wp2)
          go_ret
          exact ⟨by first | rfl | (simp; done) | (simp [*]; done), by repeat (first | exact Drawn0.refl _ | apply Drawn0.step)⟩
  · rw [if_neg c3] at H
    have c3b0 : ((l0.length : Int) == (l1.length : Int)) = false := beq_eq_false_iff_ne.mpr c3
    have c3b1 : ((l0.length : Int) != (l1.length : Int)) = true := bne_iff_ne.mpr c3
    have c3b2 : (l0.length == l1.length) = false := by first | simpa using c3 | (simp at c3 ⊢; omega)
    obtain rfl := Option.some.inj H
    go_enter Try.func24, Try.ntmps24
    go_wp2
    repeat (go_quiet (fail); try go_wp2)
    go_ret
    exact ⟨by first | rfl | (simp; done) | (simp [*]; done), by repeat (first | exact Drawn0.refl _ | apply Drawn0.step)⟩

/-- The number of beats of a part, or -1. -/
def impl_PartBeats.f (k : Nat) (l0 : List (S61)) : Option Int := (impl_PartValid.f k l0).bind fun b => some (if b = true then ((expand l0).length : Int) else -1)
theorem impl_PartBeats.mono : ∀ a0 k, LeO (impl_PartBeats.f k a0) (impl_PartBeats.f (k + 1) a0) := by
  intro a0 k
  unfold impl_PartBeats.f
  exact LeO.bind (impl_PartValid.mono _ _) (fun _ => LeO.refl _)
set_option maxHeartbeats 2000000 in
set_option maxRecDepth 100000 in
theorem impl_PartBeats.calls (k : Nat) (A0 : Option Addr) (c0 : Nat) (l0 : List (S61)) (r : Int) (w : World) (hr0 : Kd.C k61 w A0 l0.length l0) (hc0 : l0.length ≤ c0) (h : impl_PartBeats.f k l0 = some r) :
    Calls Try.prog 25 #[.slice A0 l0.length c0] w fun e w' => e = .returned (.int .i64 r) ∧ Below w.heap.size w w' := by
  obtain ⟨b, hb, h⟩ := Option.bind_eq_some_iff.mp h
  have HR0 := Aside0.mk hr0
  have HC0 := Aside0.mk hc0
  have H := Aside0.mk hb
  clear hr0 hc0 hb
  have hu79 := Try.underlying88
  cases b with
  | false =>
    obtain rfl := Option.some.inj h
    go_enter Try.func25, Try.ntmps25
    go_wp2_with (first | (go_at_call 55; (with_reducible refine (ringOf_no k A0 c0 l0 _ HR0.out HC0.out H.out).mono ?_); rintro e w1 ⟨rfl, hb⟩))
    go_ret
    exact ⟨rfl, hb⟩
  | true =>
    obtain rfl := Option.some.inj h
    obtain ⟨hl, hv⟩ := valid_true H.out
    have HV := Aside0.mk (show ∀ v ∈ l0, 0 ≤ v.f1 ∧ v.f1 ≤ 3 from fun v hv' => ⟨by have := hv v hv'; omega, (hv v hv').2⟩)
    clear hv
    go_enter Try.func25, Try.ntmps25
    go_wp2_with (first | (go_at_call 55; (with_reducible refine (ringOf_yes k A0 c0 l0 _ HR0.out HC0.out H.out HV.out hl).mono ?_); rintro e w1 ⟨g, rfl, B, hR⟩; have HR := Aside0.mk hR; have hc := blk_cell hR.ring 2; clear hR))
    go_ret
    exact ⟨rfl, HR.out.below⟩


/-! ### laws_sumOf: function 26 -/
def laws_sumOf.l0 : Nat → List Int → Int → Int → Option (Int)
  | 0, _, _, _ => none
  | k + 1, x0, x3, x4 => if x4 < (x0.length : Int) then (if 0 ≤ x4 then (laws_sumOf.l0 k x0 (wrap64 (x3 + (rd x0 x4))) (wrap64 (x4 + 1))) else (none)) else (some x3)
def laws_sumOf.f (k : Nat) (l0 : List Int) : Option (Int) := laws_sumOf.l0 k l0 0 0
theorem laws_sumOf.mono_l : ∀ k, (∀ y0 y1 y2, LeO (laws_sumOf.l0 k y0 y1 y2) (laws_sumOf.l0 (k + 1) y0 y1 y2))
  | 0 => fun _ _ _ r h => by simp [laws_sumOf.l0] at h
  | k + 1 => by
    have ih0 := laws_sumOf.mono_l k
    · intro y0 y1 y2
      unfold laws_sumOf.l0
      repeat' first
      | (with_reducible exact ih0 _ _ _)
      | (with_reducible exact LeO.refl _)
      | (with_reducible exact LeO.none _)
      | (with_reducible refine LeO.ite ?_ ?_)
      | (with_reducible refine LeO.bind ?_ (fun _ => ?_))
      | exact ih0 _ _ _
      | exact LeO.none _
      | refine LeO.ite ?_ ?_
      | refine LeO.bind ?_ (fun _ => ?_)
theorem laws_sumOf.mono : ∀ a0 k, LeO (laws_sumOf.f k a0) (laws_sumOf.f (k + 1) a0) := by
  intro a0 k
  have ih0 := laws_sumOf.mono_l k
  unfold laws_sumOf.f
  repeat' first
      | (with_reducible exact ih0 _ _ _)
      | (with_reducible exact LeO.refl _)
      | (with_reducible exact LeO.none _)
      | (with_reducible refine LeO.ite ?_ ?_)
      | (with_reducible refine LeO.bind ?_ (fun _ => ?_))
      | exact ih0 _ _ _
      | exact LeO.none _
      | refine LeO.ite ?_ ?_
      | refine LeO.bind ?_ (fun _ => ?_)
set_option maxHeartbeats 8000000 in
set_option maxRecDepth 100000 in
theorem laws_sumOf.calls (k : Nat) (A0 : Option Addr) (c0 : Nat) (l0 : List Int) (r : Int) (w : World) (hr0 : Kd.C (Kd.int .i64) w A0 l0.length l0) (hc0 : l0.length ≤ c0) (h : laws_sumOf.f k l0 = some r) :
    Calls Try.prog 26 #[.slice A0 l0.length c0] w fun e w' => e = .returned (.int .i64 r) ∧ Drawn0 w w' := by
  have HR0 := Aside0.mk hr0
  have HC0 := Aside0.mk hc0
  clear hr0 hc0
  have H : (laws_sumOf.l0 k l0 0 0) = some r := h
  clear h
  have H' := Aside0.mk H
  clear H
  go_enter Try.func26, Try.ntmps26
  go_wp2
  go_loopg [3, 4] k (fun kq v3 v4 w' => ∃ (x3_1 : Int) (x4_1 : Int), v3 = .int .i64 x3_1 ∧ v4 = .int .i64 x4_1 ∧ Aside0 (laws_sumOf.l0 kq l0 x3_1 x4_1 = some r) ∧ Aside0 (kq ≤ k) ∧ Drawn0 w w')
  case atStart => exact ⟨(0), (0), (by first | rfl | (simp; done) | (simp [*]; done)), (by first | rfl | (simp; done) | (simp [*]; done)), H', ⟨Nat.le_refl _⟩, by repeat (first | exact Drawn0.refl _ | apply Drawn0.step)⟩
  case round =>
    clear H'
    obtain ⟨x3_1, x4_1, rfl, rfl, HA, HK1, ⟨m1, rfl⟩⟩ := hrel
    cases gk with
    | zero => exact absurd HA.out (by simp [laws_sumOf.l0])
    | succ k1 =>
      have H := HA.out
      clear HA
      simp only [laws_sumOf.l0] at H
      by_cases c2 : x4_1 < (l0.length : Int)
      · rw [if_pos c2] at H
        have c2b0 : decide (x4_1 < (l0.length : Int)) = true := decide_eq_true c2
        clear c2
        by_cases c3 : 0 ≤ x4_1
        · rw [if_pos c3] at H
          have c3b0 : decide (0 ≤ x4_1) = true := decide_eq_true c3
          clear c3
          have H' := Aside0.mk H
          clear H
          have p461 : 0 ≤ (x4_1 : Int) := of_decide_eq_true (by first | (with_reducible assumption) | assumption)
          have q461 : x4_1 < (l0.length : Int) := of_decide_eq_true (by first | (with_reducible assumption) | assumption)
          obtain ⟨ad461, e461, hx461_0⟩ := Kd.at_int HR0.out x4_1 p461 q461
          cases e461
          replace p461 := eq_true p461
          replace q461 := eq_true q461
          go_wp2
          go_roundg k1
          case measure => have := HK1.out; omega
          case rel => exact ⟨(wrap64 (x3_1 + (rd l0 x4_1))), (wrap64 (x4_1 + 1)), (by first | rfl | (simp; done) | (simp [*]; done)), (by first | rfl | (simp; done) | (simp [*]; done)), H', ⟨by have := HK1.out; omega⟩, by repeat (first | exact Drawn0.refl _ | apply Drawn0.step)⟩
        · rw [if_neg c3] at H
          exact absurd H (by simp)
      · rw [if_neg c2] at H
        have c2b0 : decide (x4_1 < (l0.length : Int)) = false := decide_eq_false c2
        clear c2
        obtain rfl := Option.some.inj H
        go_wp2
        go_ret
        exact ⟨by first | rfl | (simp; done) | (simp [*]; done), by repeat (first | exact Drawn0.refl _ | apply Drawn0.step)⟩

-- INNER impl_beatRing_at
set_option maxHeartbeats 2000000 in
set_option maxRecDepth 100000 in
theorem ring_at {W0 w : World} {g : Nat} {B : Nat → Nat} {ts : List S43} (h : IsRing W0 w g B ts) (hn : ts.length ≤ 1000) (x : Nat) (hx : x < ts.length) :
    Calls Try.prog 56 #[.pointer (some ⟨g, 0, none⟩), .int .i64 (x : Int)] w fun e w' => e = .returned (.agg #[.int .i64 ts[x].f0, .bool ts[x].f1]) ∧ Below w.heap.size w w' := by
  have hu48 := Try.underlying43
  have hu89 := Try.underlying94
  have hu79 := Try.underlying88
  have hu77 := Try.underlying86
  have H := Aside0.mk h
  have e0 : ¬ (ts.length = 0) := by omega
  have hr := (h.mono (below_alloc (Below.refl _ _) (.cells #[.int .i64 0, .bool false] 43))).ring
  simp only [rp, e0, if_false] at hr
  have c0 : (w.alloc (.cells #[.int .i64 0, .bool false] 43)).cell? ⟨g, 0, none⟩ = some (.pointer (some ⟨B 0, 0, none⟩)) := blk_cell hr 0
  clear h hr
  go_enter Try.func56, Try.ntmps56
  go_wp2
  go_loopg [5, 11] x (fun kq v5 v11 w' => ∃ j : Nat, v11 = .int .i64 (j : Int) ∧ v5 = .pointer (some ⟨B j, 0, none⟩) ∧ Aside0 (j ≤ x ∧ kq = x - j) ∧ Aside0 (Below w.heap.size w w') ∧ Aside0 (w'.heap[w.heap.size]? = some (.cells #[.int .i64 0, .bool false] 43 (0, 0))))
  case atStart => exact ⟨0, rfl, rfl, ⟨by omega, by omega⟩, ⟨below_alloc (Below.refl _ _) _⟩, ⟨blk_new _ _⟩⟩
  case round =>
    obtain ⟨j, rfl, rfl, HJ, HB, HK⟩ := hrel
    have hj : j < ts.length := by have := HJ.out; omega
    have nd := (H.out.mono HB.out).node j hj
    have n0 : wr.cell? ⟨B j, 0, none⟩ = some (.int .i64 ts[j].f0) := blk_cell nd 0
    have n1 : wr.cell? ⟨B j, 1, none⟩ = some (.bool ts[j].f1) := blk_cell nd 1
    have n2 : wr.cell? ⟨B j, 2, none⟩ = some (.pointer (some ⟨B (if j + 1 = ts.length then 0 else j + 1), 0, none⟩)) := blk_cell nd 2
    clear nd
    by_cases hjx : j < x
    · rw [if_neg (by omega)] at n2
      go_wp2
      go_roundg (x - (j + 1))
      case measure => have := HJ.out; omega
      case rel => exact ⟨j + 1, by simp, rfl, ⟨by omega, rfl⟩, HB, HK⟩
    · have e : j = x := by have := HJ.out.1; omega
      subst e
      clear n2
      have k0 := blk_cell HK.out 0
      have k1 := blk_cell HK.out 1
      have kf := fun i => blk_frozen HK.out i
      go_wp2
      refine bodyPost_ret (results_cell_row rfl _ _ w.heap.size 43 #[.int .i64 ts[j].f0, .bool ts[j].f1] (0, 0) _ rfl (blk_put (cs := #[.int .i64 ts[j].f0, .bool false]) (blk_put HK.out 0 _ rfl) 1 _ rfl) Try.underlying43 rfl (by kernel_rfl)) rfl ?_
      exact ⟨rfl, below_set (below_set HB.out (Nat.le_refl _)) (Nat.le_refl _)⟩
/-- The tone at a beat of a part. -/
def impl_PartAt.f (k : Nat) (l0 : List (S61)) (a1 : Int) : Option (Int × Bool × Bool) := (impl_PartValid.f k l0).bind fun b => some (if b = true then (if 0 ≤ a1 then (if a1 < ((expand l0).length : Int) then (((expand l0).getD a1.toNat z43).f0, ((expand l0).getD a1.toNat z43).f1, true) else (0, false, false)) else (0, false, false)) else (0, false, false))
theorem impl_PartAt.mono : ∀ a0 a1 k, LeO (impl_PartAt.f k a0 a1) (impl_PartAt.f (k + 1) a0 a1) := by
  intro a0 a1 k
  unfold impl_PartAt.f
  exact LeO.bind (impl_PartValid.mono _ _) (fun _ => LeO.refl _)
set_option maxHeartbeats 4000000 in
set_option maxRecDepth 100000 in
theorem impl_PartAt.calls (k : Nat) (A0 : Option Addr) (c0 : Nat) (l0 : List (S61)) (a1 : Int) (r1 : Int) (r2 : Bool) (r3 : Bool) (w : World) (hr0 : Kd.C k61 w A0 l0.length l0) (hc0 : l0.length ≤ c0) (h : impl_PartAt.f k l0 a1 = some (r1, r2, r3)) :
    Calls Try.prog 27 #[.slice A0 l0.length c0, .int .i64 a1] w fun e w' => e = .returned (.tuple #[.agg #[.int .i64 r1, .bool r2], .bool r3]) ∧ Below w.heap.size w w' := by
  obtain ⟨b, hb, h⟩ := Option.bind_eq_some_iff.mp h
  have e1 := Option.some.inj h
  clear h
  have hr1 : Kd.C k61 (w.alloc (.cells #[.int .i64 0, .bool false] 43)) A0 l0.length l0 := Kd.C_alloc hr0 _
  have HR0 := Aside0.mk hr1
  have HC0 := Aside0.mk hc0
  have H := Aside0.mk hb
  clear hr0 hc0 hb hr1
  have hu79 := Try.underlying88
  have hu48 := Try.underlying43
  have hn := blk_new w (.cells #[.int .i64 0, .bool false] 43)
  have HN := Aside0.mk hn
  clear hn
  have HB0 := Aside0.mk (below_alloc (Below.refl w.heap.size w) (.cells #[.int .i64 0, .bool false] 43))
  cases b with
  | false =>
    obtain ⟨rfl, rfl, rfl⟩ : 0 = r1 ∧ false = r2 ∧ false = r3 := by simpa using e1
    clear e1
    go_enter Try.func27, Try.ntmps27
    go_wp2_with (first | (go_at_call 55; (with_reducible refine (ringOf_no k A0 c0 l0 _ HR0.out HC0.out H.out).mono ?_); rintro e w1 ⟨rfl, hb⟩; have HB := Aside0.mk (below_step HB0.out hb); have HK := Aside0.mk (blk_below HN.out hb); have k0 := blk_cell HK.out 0; have k1 := blk_cell HK.out 1; have kf := fun i => blk_frozen HK.out i; clear hb))
    refine bodyPost_ret (results_ct rfl _ _ w.heap.size 43 #[.int .i64 0, .bool false] (0, 0) _ rfl (blk_put (cs := #[.int .i64 0, .bool false]) (blk_put HK.out 0 _ rfl) 1 _ rfl) Try.underlying43 rfl (by kernel_rfl)) rfl ?_
    exact ⟨rfl, below_set (below_set HB.out (Nat.le_refl _)) (Nat.le_refl _)⟩
  | true =>
    obtain ⟨hl, hv⟩ := valid_true H.out
    have HV := Aside0.mk (show ∀ v ∈ l0, 0 ≤ v.f1 ∧ v.f1 ≤ 3 from fun v hv' => ⟨by have := hv v hv'; omega, (hv v hv').2⟩)
    have hlen := expand_len l0 (fun v h => (hv v h).2)
    clear hv
    by_cases h0 : 0 ≤ a1
    · obtain ⟨x, rfl⟩ := Int.eq_ofNat_of_zero_le h0
      by_cases h1 : x < (expand l0).length
      · have e2 : (expand l0)[x].f0 = r1 ∧ (expand l0)[x].f1 = r2 ∧ true = r3 := by
          rw [if_pos rfl, if_pos h0, if_pos (by omega)] at e1
          simpa [List.getD_eq_getElem?_getD, h1] using e1
        obtain ⟨rfl, rfl, rfl⟩ := e2
        clear e1 h0
        go_enter Try.func27, Try.ntmps27
        go_wp2_with (first | (go_at_call 55; (with_reducible refine (ringOf_yes k A0 c0 l0 _ HR0.out HC0.out H.out HV.out hl).mono ?_); rintro e w1 ⟨g, rfl, B, hR⟩; have HR := Aside0.mk hR; have hc := blk_cell hR.ring 2; clear hR) | (go_at_call 56; (with_reducible refine (ring_at HR.out (by omega) x h1).mono ?_); rintro e w2 ⟨rfl, hb⟩; have HB := Aside0.mk (below_step (below_step HB0.out HR.out.below) hb); have HK := Aside0.mk (blk_below (blk_below HN.out HR.out.below) hb); have k0 := blk_cell HK.out 0; have k1 := blk_cell HK.out 1; have kf := fun i => blk_frozen HK.out i; clear hb))
        refine bodyPost_ret (results_ct rfl _ _ w.heap.size 43 #[.int .i64 (expand l0)[x].f0, .bool (expand l0)[x].f1] (0, 0) _ rfl (blk_put (cs := #[.int .i64 (expand l0)[x].f0, .bool false]) (blk_put HK.out 0 _ rfl) 1 _ rfl) Try.underlying43 rfl (by kernel_rfl)) rfl ?_
        exact ⟨rfl, below_set (below_set HB.out (Nat.le_refl _)) (Nat.le_refl _)⟩
      · obtain ⟨rfl, rfl, rfl⟩ : 0 = r1 ∧ false = r2 ∧ false = r3 := by
          rw [if_pos rfl, if_pos h0, if_neg (by omega)] at e1
          simpa using e1
        clear e1 h0
        go_enter Try.func27, Try.ntmps27
        go_wp2_with (first | (go_at_call 55; (with_reducible refine (ringOf_yes k A0 c0 l0 _ HR0.out HC0.out H.out HV.out hl).mono ?_); rintro e w1 ⟨g, rfl, B, hR⟩; have HR := Aside0.mk hR; have hc := blk_cell hR.ring 2; have HB := Aside0.mk (below_step HB0.out hR.below); have HK := Aside0.mk (blk_below HN.out hR.below); have k0 := blk_cell HK.out 0; have k1 := blk_cell HK.out 1; have kf := fun i => blk_frozen HK.out i; clear hR))
        refine bodyPost_ret (results_ct rfl _ _ w.heap.size 43 #[.int .i64 0, .bool false] (0, 0) _ rfl (blk_put (cs := #[.int .i64 0, .bool false]) (blk_put HK.out 0 _ rfl) 1 _ rfl) Try.underlying43 rfl (by kernel_rfl)) rfl ?_
        exact ⟨rfl, below_set (below_set HB.out (Nat.le_refl _)) (Nat.le_refl _)⟩
    · obtain ⟨rfl, rfl, rfl⟩ : 0 = r1 ∧ false = r2 ∧ false = r3 := by
        rw [if_pos rfl, if_neg h0] at e1
        simpa using e1
      clear e1
      go_enter Try.func27, Try.ntmps27
      go_wp2_with (first | (go_at_call 55; (with_reducible refine (ringOf_yes k A0 c0 l0 _ HR0.out HC0.out H.out HV.out hl).mono ?_); rintro e w1 ⟨g, rfl, B, hR⟩; have HR := Aside0.mk hR; have hc := blk_cell hR.ring 2; have HB := Aside0.mk (below_step HB0.out hR.below); have HK := Aside0.mk (blk_below HN.out hR.below); have k0 := blk_cell HK.out 0; have k1 := blk_cell HK.out 1; have kf := fun i => blk_frozen HK.out i; clear hR))
      refine bodyPost_ret (results_ct rfl _ _ w.heap.size 43 #[.int .i64 0, .bool false] (0, 0) _ rfl (blk_put (cs := #[.int .i64 0, .bool false]) (blk_put HK.out 0 _ rfl) 1 _ rfl) Try.underlying43 rfl (by kernel_rfl)) rfl ?_
      exact ⟨rfl, below_set (below_set HB.out (Nat.le_refl _)) (Nat.le_refl _)⟩


end Go.Proofs.Ytgiobmceippanaa.G
